/-
  The walk of regattalaw07.MlpHidden.
-/
import Derived.Test.YtdamenbpgkhiiaaHidQ
import Derived.Test.YtdamenbpgkhiiaaRegW
namespace Go.Proofs.Ytdamenbpgkhiiaa
open Go.RowKit
set_option linter.unusedVariables false
set_option linter.unusedSimpArgs false

theorem own_cellsH {w : World} {B size n : Nat} {E : TypeId} {v : Value} {xs : List Value} (h : w.ownsRow B E size v n xs) (hn : 0 < n) : ∃ g c, v = .slice (some ⟨g, 0, none⟩) n c ∧ B ≤ g ∧ g < w.heap.size ∧ ∀ j u, xs[j]? = some u → w.cell? ⟨g, j, none⟩ = some u := by
  rcases h.2 with ⟨e, e2⟩ | ⟨g, cap, cur, rfl, hb, hg, hc, hmx, hsz, ht⟩
  · omega
  · refine ⟨g, cap, rfl, hb, lt_of_block hg, fun j u hj => ?_⟩
    have := World.ownsRow.cells h (g := g) rfl j u hj
    rw [← this]
    simp only [Addr.add, Nat.zero_add]
    split <;> simp_all
theorem own_cap {w : World} {B size n c : Nat} {a : Option Addr} {E : TypeId} {xs : List Value} (h : w.ownsRow B E size (.slice a n c) n xs) (hn : 0 < n) : n ≤ c ∧ c ≤ 9223372036854775807 := by
  rcases h.2 with ⟨e, e2⟩ | ⟨g, cap, cur, e, hb, hg, hc, hmx, hsz, ht⟩
  · omega
  · simp only [Value.slice.injEq] at e
    obtain ⟨_, _, rfl⟩ := e
    unfold maxLen at hmx
    exact ⟨hc, by omega⟩
theorem map_someH {l : List Int} {n X : Nat} (hl : l.length = n) (h : X < n) : (l.map (Value.int .i64))[X]? = some (.int .i64 (l[X]?.getD 0)) := by
  subst hl
  rw [List.getElem?_map, List.getElem?_eq_getElem h]; rfl
theorem A64_set {l : List Int} (h : A64 l) (a : Nat) {v : Int} (hv : I64 v) : A64 (l.set a v) := fun i => by
  by_cases e : a = i
  · subst e
    by_cases h2 : a < l.length
    · rw [List.getElem?_set_self h2]; exact hv
    · rw [List.set_eq_of_length_le (by omega)]; exact h a
  · rw [List.getElem?_set_ne e]; exact h i
theorem A64_sw {l p : List Int} (h : A64 l) (hp : A64 p) (a b : Nat) : A64 (sw l p a b) := A64_set (A64_set h a (hp b)) b (hp a)
theorem A64_L1 {p : List Int} (hp : A64 p) (n0 i j : Nat) : ∀ k, A64 (L1 p n0 i j k)
  | 0 => hp
  | k + 1 => A64_sw (A64_L1 hp n0 i j k) hp _ _
theorem A64_L3 {p : List Int} (hp : A64 p) (n0 A n1 B i j : Nat) : ∀ o, A64 (L3 p n0 A n1 B i j o)
  | 0 => A64_sw (A64_L1 hp n0 i j n0) hp _ _
  | o + 1 => A64_sw (A64_L3 hp n0 A n1 B i j o) hp _ _

set_option maxHeartbeats 1600000 in
theorem lSame_any (a b : Option Addr) (n ca cb : Nat) (l : List Int) (w : World) (ha : Rd w .i64 a n l) (hb : Rd w .i64 b n l) :
    Calls Try.prog 34 #[.slice a n ca, .slice b n cb] w fun e w' => e = .returned (.bool true) ∧ Drew w w' := by
  have HA := Lib.hid ha; have HB := Lib.hid hb
  have hn := ha.2.1
  clear ha hb
  go_enter Try.func34, Try.ntmps34
  go_wp2
  go_loopw [14] (fun k wr => ∃ i : Nat, i ≤ n ∧ k = .int .i64 i ∧ Hid (Drew w wr)) (fun k _ => n - (intOf k).toNat)
  case atStart => exact ⟨0, Nat.zero_le _, rfl, Drew.refl _⟩
  case round =>
    obtain ⟨i, hi, rfl, hq⟩ := hrel
    obtain ⟨nd, rfl⟩ := hq.out
    by_cases hlt : i < n
    · obtain ⟨ba, oa, rfl, hba, hca⟩ := HA.out.at hlt
      obtain ⟨bb, ob, rfl, hbb, hcb⟩ := HB.out.at hlt
      generalize l[i]?.getD 0 = z at *
      have hi0 : (0 : Int) ≤ (i : Int) := by omega
      have hin : (i : Int) < (n : Int) := by omega
      go_wp2
      go_roundw
      case rel => exact ⟨i + 1, by omega, by go_num, Lib.hid ⟨nd, rfl⟩⟩
      case measure => simp [intOf]; omega
    · obtain rfl : i = n := by omega
      go_wp2
      go_ret
      exact ⟨rfl, ⟨nd, rfl⟩⟩

set_option maxHeartbeats 8000000 in
set_option maxRecDepth 100000 in
theorem hid_walk (aS : Option Addr) (ns cS : Nat) (s : List Int) (ap : Option Addr) (np cp : Nat) (p : List Int) (ax : Option Addr) (nx cx : Nat) (x : List Int) (atI : Int) (w : World)
    (hS : InRow w aS ns cS s) (hP : InRow w ap np cp p) (hX : InRow w ax nx cx x) (hat : I64 atI) :
    Calls Try.prog 7 #[.agg #[.slice aS ns cS, .slice ap np cp], .slice ax nx cx, .int .i64 atI] w fun e w' => e = .returned (.bool true) ∧ Below w.heap.size w w' := by
  have hnsm : ns ≤ 9223372036854775807 := by have := hS.nc; have := hS.cm; omega
  have hnpm : np ≤ 9223372036854775807 := by have := hP.nc; have := hP.cm; omega
  have hnxm : nx ≤ 9223372036854775807 := by have := hX.nc; have := hX.cm; omega
  have HAw := Lib.hid (fun w => awake_any w)
  have HFew := Lib.hid (fun w' (hb : Below w.heap.size w w') => few_any aS ns cS s ap np cp w' (fun h => (hS.rd (by omega)).kept hb) hnsm hnpm)
  have HSh := Lib.hid (fun g w h1 => short1_any g nx cx ax w h1 hnxm)
  by_cases hfew : fewB s ns np = true
  · rw [hfew] at HFew
    unfold fewB at hfew
    rw [decide_eq_true_eq] at hfew
    have HR := Lib.hid (fun w' (hb : Below w.heap.size w w') => right_any aS ns cS s ap np cp w' ((hS.rd (by omega)).kept hb) hnpm)
    by_cases hsx : nx ≤ 100
    · rw [show decide (nx ≤ 100) = true by simpa using hsx] at HSh
      by_cases hr : rightB s np = true
      · rw [hr] at HR
        unfold rightB at hr
        rw [decide_eq_true_eq] at hr
        by_cases h3 : ns = 3
        · have hsl := (hS.rd (by omega)).1
          obtain ⟨bs, os, rfl, hbs, hcs⟩ := (hS.rd (by omega)).at (i := 0) (by omega)
          obtain ⟨_, _, e', _, hcs1⟩ := (hS.rd (by omega)).at (i := 1) (by omega)
          cases e'
          obtain ⟨_, _, e', _, hcs2⟩ := (hS.rd (by omega)).at (i := 2) (by omega)
          cases e'
          have hs0 := hr.1.szv (i := 0) (by rw [hsl]; omega)
          have hs1 := hr.1.szv (i := 1) (by rw [hsl]; omega)
          have hs2 := hr.1.szv (i := 2) (by rw [hsl]; omega)
          rw [hs0.1, Nat.add_zero] at hcs
          rw [hs1.1] at hcs1
          rw [hs2.1] at hcs2
          have gs0x := hcs
          have gs1x := hcs1
          have gs2x := hcs2
          clear hcs hcs1 hcs2
          by_cases hx0 : nx = szN s 0
          · by_cases hm2 : 2 ≤ szN s 1
            · by_cases hat0 : 0 ≤ atI
              · obtain rfl := h3
                have hxl := (hX.rd (by omega)).1
                have hpl := (hP.rd (by omega)).1
                have hn : NetOk s p x 2 := ⟨hr.1, hsl, by rw [hpl, hr.2], by rw [hxl, hx0], hP.i, hX.i⟩
                have HF := Lib.hid (fun w' (hb : Below w.heap.size w w') => Forward_ok none 0 (some ⟨bs, os, none⟩) 3 cS s ap np cp p ax nx cx x 2 w' hn ((hS.rd (by omega)).kept hb) ((hP.rd (by omega)).kept hb) ((hX.rd (by omega)).kept hb) hP.nc hP.cm hX.nil (fun _ _ h => by cases h) (Un.none _ _))
                have HF2 := Lib.hid (fun w' (hb : Below w.heap.size w w') (p' : List Int) (gP cP : Nat) (hp' : p'.length = p.length) (i64 : A64 p') (hrd : Rd w' .i64 (some ⟨gP, 0, none⟩) np p') (hc1 : np ≤ cP) (hc2 : cP ≤ 9223372036854775807) => Forward_ok none 0 (some ⟨bs, os, none⟩) 3 cS s (some ⟨gP, 0, none⟩) np cP p' ax nx cx x 2 w' ⟨hr.1, hsl, by rw [hp', hpl, hr.2], by rw [hxl, hx0], i64, hX.i⟩ ((hS.rd (by omega)).kept hb) hrd ((hX.rd (by omega)).kept hb) hc1 hc2 hX.nil (fun _ _ h => by cases h) (Un.none _ _))
                rw [show uV none = .pointer none from rfl] at HF HF2
                obtain ⟨bp, op, rfl, hbp, _⟩ := (hP.rd (by omega)).at (i := 0) (by have := hn.p_pos; omega)
                have HPr := Lib.hid (hP.rd (by omega))
                have hnp : np = szN s 1 * szN s 0 + szN s 1 + szN s 2 * szN s 1 + szN s 2 := by
                  rw [← hpl, hn.hp]
                  unfold cntN
                  rw [hn.hm]
                  show fst s (1 + 1) = _
                  rw [fst_succ s 1]
                  show fst s (0 + 1) + _ = _
                  rw [fst_succ s 0, show fst s 0 = 0 from rfl]
                  simp only [Nat.zero_add, Nat.reduceAdd]
                  omega
                have Hnp := Lib.hid hnp
                have HL := Lib.hid (fun i j (hij : i ≠ j) (hi : i < szN s 1) (hj : j < szN s 1) => hid_same (s := s) (p := p) (x := x) hsl (by rw [hxl, hx0]) hij hi hj (by rw [hpl, hnp]; omega))
                have IP := Lib.hid hP.i
                have Hpl := Lib.hid hpl
                have HPcm := Lib.hid hP.cm
                have hnp400 : np ≤ 400 := hfew.2.1
                have Hv2 := Lib.hid (fun q => val_len (s := s) (p := q) (x := x) (by rw [hxl, hx0]) 2)
                have hq0 := hs0.2
                have hq1 := hs1.2
                have hq2 := hs2.2
                have hne' : ((nx : Int) != (szN s 0 : Int)) = false := by simpa using (by omega : (nx : Int) = szN s 0)
                have hm2i : ¬ ((szN s 1 : Int) < 2) := by omega
                have hat1 : ¬ (atI < 0) := by omega
                obtain ⟨i, hi⟩ : ∃ i : Nat, atI.tmod (szN s 1 : Int) = (i : Int) := ⟨(atI.tmod (szN s 1 : Int)).toNat, by rw [Int.tmod_eq_emod_of_nonneg hat0]; have := Int.emod_nonneg atI (b := (szN s 1 : Int)) (by omega); omega⟩
                have hiq : i < szN s 1 := by
                  rw [Int.tmod_eq_emod_of_nonneg hat0] at hi
                  have := Int.emod_lt_of_pos atI (b := (szN s 1 : Int)) (by omega)
                  omega
                obtain ⟨j, hj⟩ : ∃ j : Nat, j = if i + 1 = szN s 1 then 0 else i + 1 := ⟨_, rfl⟩
                have hjq : j < szN s 1 := by rw [hj]; split <;> omega
                have hij : i ≠ j := by rw [hj]; split <;> omega
                have hjm : ((i : Int) + 1).tmod (szN s 1 : Int) = (j : Int) := by
                  rw [Int.tmod_eq_emod_of_nonneg (by omega), hj]
                  split
                  · rename_i h; rw [show (i : Int) + 1 = (szN s 1 : Int) by omega, Int.emod_self]; rfl
                  · rw [Int.emod_eq_of_lt (by omega) (by omega)]; rfl
                have hwi : IntKind.i64.wrap (i : Int) = (i : Int) := by rw [IntKind.wrap_i64]; omega
                have hwi1 : IntKind.i64.wrap ((i : Int) + 1) = (i : Int) + 1 := by rw [IntKind.wrap_i64]; omega
                have hwj : IntKind.i64.wrap (j : Int) = (j : Int) := by rw [IntKind.wrap_i64]; omega
                have hq1z : ¬ ((szN s 1 : Int) = 0) := by omega
                have Hij := Lib.hid hij
                clear hn hS hP hX hfew hr hs0 hs1 hs2 hsl hpl hxl hnp hj hij
                generalize szN s 2 = q2 at *
                subst hx0
                generalize szN s 0 = nx at *
                generalize szN s 1 = q1 at *
                go_enter Try.func7, Try.ntmps7
                go_wp2_with first
                  | ((with_reducible refine (HAw.out _).mono ?_); rintro e w1 ⟨rfl, hb1⟩; obtain ⟨hc1, hf1⟩ := bcell hb1; have hz1 := hb1.size; (try simp at hz1 hc1 hf1); have lt1 : w.heap.size < w1.heap.size := (by omega))
                  | ((with_reducible refine (HFew.out _ (by (repeat first | assumption | exact Below.refl _ _ | refine Below.drew ?_ | refine Below.drewN ?_ _ | refine Below.alloc ?_ (by (first | omega | (simp; done) | (simp; omega))) _ | refine Below.setCell ?_ (by (first | omega | (simp; done) | (simp; omega))) _ | refine Below.trans ?_ (Below.mono (by assumption) (by (first | omega | (simp; done) | (simp; omega))))))).mono ?_); rintro e w2 ⟨rfl, hb2⟩; obtain ⟨hc2, hf2⟩ := bcell hb2; have hz2 := hb2.size; (try simp at hz2 hc2 hf2); have lt2 : w.heap.size < w2.heap.size := (by omega))
                  | fail
                have d0 : w2.cell? ⟨w.heap.size, 0, none⟩ = some (.slice (some ⟨bs, os, none⟩) 3 cS) := by rw [hc2 _ _ (by omega), hc1 _ _ (by omega)]; go_simp
                have d1 : w2.cell? ⟨w.heap.size, 1, none⟩ = some (.slice (some ⟨bp, op, none⟩) np cp) := by rw [hc2 _ _ (by omega), hc1 _ _ (by omega)]; go_simp
                have dgs0 : w2.cell? ⟨bs, os, none⟩ = some (.int .i64 (nx : Int)) := by rw [hc2 _ _ (by omega), hc1 _ _ (by omega), World.cell?_alloc_past _ _ _ hbs]; exact gs0x
                have dgs1 : w2.cell? ⟨bs, os + 1, none⟩ = some (.int .i64 (q1 : Int)) := by rw [hc2 _ _ (by omega), hc1 _ _ (by omega), World.cell?_alloc_past _ _ _ hbs]; exact gs1x
                have dgs2 : w2.cell? ⟨bs, os + 2, none⟩ = some (.int .i64 (q2 : Int)) := by rw [hc2 _ _ (by omega), hc1 _ _ (by omega), World.cell?_alloc_past _ _ _ hbs]; exact gs2x
                have Hb2 : Hid (Below w.heap.size w w2) := Lib.hid (by (repeat first | assumption | exact Below.refl _ _ | refine Below.drew ?_ | refine Below.drewN ?_ _ | refine Below.alloc ?_ (by (first | omega | (simp; done) | (simp; omega))) _ | refine Below.setCell ?_ (by (first | omega | (simp; done) | (simp; omega))) _ | refine Below.trans ?_ (Below.mono (by assumption) (by (first | omega | (simp; done) | (simp; omega))))))
                clear hb1 hb2 hc1 hc2 hf1 hf2
                ((with_reducible refine (HSh.out _ _ (World.cell?_alloc_at _ _ _ _ rfl)).mono ?_); rintro e w3 ⟨rfl, rfl⟩)
                have b3 : Hid (Below w.heap.size w (w2.alloc (.cells #[.slice ax nx cx] 62))) := Lib.hid (by have := Hb2.out; (repeat first | assumption | exact Below.refl _ _ | refine Below.drew ?_ | refine Below.drewN ?_ _ | refine Below.alloc ?_ (by (first | omega | (simp; done) | (simp; omega))) _ | refine Below.setCell ?_ (by (first | omega | (simp; done) | (simp; omega))) _ | refine Below.trans ?_ (Below.mono (by assumption) (by (first | omega | (simp; done) | (simp; omega))))))
                have lt3 : w.heap.size < w2.heap.size := by have := Hb2.out.size; omega
                have hbs2 : bs < w2.heap.size := by omega
                have e0 : (w2.alloc (.cells #[.slice ax nx cx] 62)).cell? ⟨w.heap.size, 0, none⟩ = some (.slice (some ⟨bs, os, none⟩) 3 cS) := by rw [World.cell?_alloc_past _ _ _ (by omega)]; exact d0
                have e1 : (w2.alloc (.cells #[.slice ax nx cx] 62)).cell? ⟨w.heap.size, 1, none⟩ = some (.slice (some ⟨bp, op, none⟩) np cp) := by rw [World.cell?_alloc_past _ _ _ (by omega)]; exact d1
                have egs0 : (w2.alloc (.cells #[.slice ax nx cx] 62)).cell? ⟨bs, os, none⟩ = some (.int .i64 (nx : Int)) := by rw [World.cell?_alloc_past _ _ _ (by omega)]; exact dgs0
                have egs1 : (w2.alloc (.cells #[.slice ax nx cx] 62)).cell? ⟨bs, os + 1, none⟩ = some (.int .i64 (q1 : Int)) := by rw [World.cell?_alloc_past _ _ _ (by omega)]; exact dgs1
                have egs2 : (w2.alloc (.cells #[.slice ax nx cx] 62)).cell? ⟨bs, os + 2, none⟩ = some (.int .i64 (q2 : Int)) := by rw [World.cell?_alloc_past _ _ _ (by omega)]; exact dgs2
                have hW3z : (w2.alloc (.cells #[.slice ax nx cx] 62)).heap.size = w2.heap.size + 1 := by simp
                generalize hW3 : (w2.alloc (.cells #[.slice ax nx cx] 62)) = W3 at *
                go_wp2_with fail
                (try rw [hW3])
                ((with_reducible refine (HR.out _ b3.out).mono ?_); rintro e w4 ⟨rfl, hb4⟩)
                have z4 := hb4.size
                have f0 : w4.cell? ⟨w.heap.size, 0, none⟩ = some (.slice (some ⟨bs, os, none⟩) 3 cS) := (hb4.cell (p := ⟨w.heap.size, 0, none⟩) (by first | (show w.heap.size < _; omega) | (show bs < _; omega))).trans e0
                have f1 : w4.cell? ⟨w.heap.size, 1, none⟩ = some (.slice (some ⟨bp, op, none⟩) np cp) := (hb4.cell (p := ⟨w.heap.size, 1, none⟩) (by first | (show w.heap.size < _; omega) | (show bs < _; omega))).trans e1
                have fgs0 : w4.cell? ⟨bs, os, none⟩ = some (.int .i64 (nx : Int)) := (hb4.cell (p := ⟨bs, os, none⟩) (by first | (show w.heap.size < _; omega) | (show bs < _; omega))).trans egs0
                have fgs1 : w4.cell? ⟨bs, os + 1, none⟩ = some (.int .i64 (q1 : Int)) := (hb4.cell (p := ⟨bs, os + 1, none⟩) (by first | (show w.heap.size < _; omega) | (show bs < _; omega))).trans egs1
                have fgs2 : w4.cell? ⟨bs, os + 2, none⟩ = some (.int .i64 (q2 : Int)) := (hb4.cell (p := ⟨bs, os + 2, none⟩) (by first | (show w.heap.size < _; omega) | (show bs < _; omega))).trans egs2
                have Hbw4 : Hid (Below w.heap.size w w4) := Lib.hid (b3.out.trans (hb4.mono (by omega)))
                have l4 : w.heap.size < w4.heap.size := by omega
                clear hb4 HFew HSh HR HAw hW3 d0 d1 e0 e1 dgs0 egs0 dgs1 egs1 dgs2 egs2
                have hbp4 : bp < w4.heap.size := by have := Hbw4.out.size; omega
                have HP4 : Hid (Rd w4 .i64 (some ⟨bp, op, none⟩) np p) := Lib.hid (HPr.out.kept Hbw4.out)
                go_wp2
                go_quiet (fail)
                (try simp only [hi, hwi, hwi1, hjm, hwj])
                generalize hWa : w4.drewN nq = Wa at *
                have ga0 : Wa.cell? ⟨w.heap.size, 0, none⟩ = some (.slice (some ⟨bs, os, none⟩) 3 cS) := by rw [← hWa]; exact f0
                have ga1 : Wa.cell? ⟨w.heap.size, 1, none⟩ = some (.slice (some ⟨bp, op, none⟩) np cp) := by rw [← hWa]; exact f1
                go_wp2
                go_quiet (fail)
                (try simp only [hi, hwi, hwi1, hjm, hwj])
                generalize hW5 : Wa.drewN nq = W5 at *
                have Hb5 : Hid (Below w4.heap.size w4 W5) := Lib.hid (by rw [← hW5, ← hWa]; exact Go.Proofs.Ytdamenbpgkhiiaa.Below.drewN (Go.Proofs.Ytdamenbpgkhiiaa.Below.drewN (Below.refl _ _) _) _)
                have HP5 : Hid (Rd W5 .i64 (some ⟨bp, op, none⟩) np p) := Lib.hid (HP4.out.kept Hb5.out)
                have Hbw5 : Hid (Below w.heap.size w W5) := Lib.hid (Hbw4.out.trans (Hb5.out.mono (by omega)))
                have g0 : W5.cell? ⟨w.heap.size, 0, none⟩ = some (.slice (some ⟨bs, os, none⟩) 3 cS) := (Hb5.out.cell (p := ⟨w.heap.size, 0, none⟩) l4).trans f0
                have g1 : W5.cell? ⟨w.heap.size, 1, none⟩ = some (.slice (some ⟨bp, op, none⟩) np cp) := (Hb5.out.cell (p := ⟨w.heap.size, 1, none⟩) l4).trans f1
                have hz5 := Hb5.out.size
                clear hW5 hWa ga0 ga1 f0 f1 fgs0 fgs1 fgs2 HP4
                have gA : (W5.alloc (.cells #[] 39)).cell? ⟨w.heap.size, 1, none⟩ = some (.slice (some ⟨bp, op, none⟩) np cp) := by rw [World.cell?_alloc_past _ _ _ (by omega)]; exact g1
                go_wp2_with (at_builtin; refine wpl_appN eFs rfl _ _ rfl W5.heap.size _ 0 [] rfl (World.ownsRow_lit _ #[] 0 (Nat.le_refl _) (by unfold maxLen; omega) rfl) .i64 _ _ _ p rfl ?k1 ?k2 ?k3 ?k4 ?k5 ?_)
                case k1 => exact HP5.out.kept ((Below.refl _ _).alloc (Nat.le_refl _) _)
                case k2 => exact fun h => by cases h
                case k3 => unfold maxLen; omega
                case k4 => omega
                case k5 => first | omega | (simp; done) | exact Nat.le_succ _
                intro v6 w6 hown6 hg6
                have hb6 := Below.grownOf ((Below.refl W5.heap.size W5).alloc (Nat.le_refl _) (.cells #[] 39)) (World.ownsRow_lit (base := W5.heap.size) (size := 1) W5 #[] 0 (Nat.le_refl _) (by unfold maxLen; omega) rfl) hg6 (by simp)
                have z6 := hb6.size
                (try simp only [List.nil_append, Nat.zero_add] at hown6)
                have hnp0 : 0 < np := by have := Hnp.out; omega
                obtain ⟨gP, cP, rfl, hgPB, hgP, _⟩ := own_cellsH hown6 hnp0
                have hcap := own_cap hown6 hnp0
                have Hcap := Lib.hid hcap
                have HP6 := Lib.hid (HP5.out.kept hb6)
                have h60 : w6.cell? ⟨w.heap.size, 0, none⟩ = some (.slice (some ⟨bs, os, none⟩) 3 cS) := (hb6.cell (p := ⟨w.heap.size, 0, none⟩) (by show w.heap.size < _; omega)).trans g0
                have h61 : w6.cell? ⟨w.heap.size, 1, none⟩ = some (.slice (some ⟨bp, op, none⟩) np cp) := (hb6.cell (p := ⟨w.heap.size, 1, none⟩) (by show w.heap.size < _; omega)).trans g1
                have Hbw6 : Hid (Below w.heap.size w w6) := Lib.hid (Hbw5.out.trans (hb6.mono (by omega)))
                have Hown6 := Lib.hid hown6
                clear hown6 hg6 hb6 g0 g1 gA HP5 Hb5 hcap
                go_wp2
                have hbpw : bp < w6.heap.size := by have := Hbw6.out.size; omega
                have hgb : bp ≠ gP := by have := Hbw5.out.size; omega
                have hgw : w.heap.size ≠ gP := by have := Hbw5.out.size; omega
                have hww : w.heap.size < w6.heap.size := by omega
                have hAi : (nx : Int) * (q1 : Int) = ((q1 * nx : Nat) : Int) := by simp [Int.mul_comm]
                obtain ⟨A, hA⟩ : ∃ A, q1 * nx = A := ⟨_, rfl⟩
                obtain ⟨C, hC⟩ : ∃ C, q2 * q1 = C := ⟨_, rfl⟩
                rw [hA] at hAi HL
                rw [hA, hC] at Hnp
                have HA := Lib.hid hA
                have HC := Lib.hid hC
                have hnpA : A + q1 + C + q2 ≤ np := by have := Hnp.out; omega
                have hwA : IntKind.i64.wrap (A : Int) = (A : Int) := by rw [IntKind.wrap_i64]; omega
                obtain ⟨I, hI⟩ : ∃ I, i * nx = I := ⟨_, rfl⟩
                obtain ⟨J, hJ⟩ : ∃ J, j * nx = J := ⟨_, rfl⟩
                have hIi : (i : Int) * (nx : Int) = (I : Int) := by rw [← hI]; simp
                have hJi : (j : Int) * (nx : Int) = (J : Int) := by rw [← hJ]; simp
                have hIA : I + nx ≤ A := by
                  have h5 : (i + 1) * nx ≤ q1 * nx := Nat.mul_le_mul_right _ (by omega)
                  rw [Nat.add_mul, hI, hA] at h5
                  omega
                have hJA : J + nx ≤ A := by
                  have h5 : (j + 1) * nx ≤ q1 * nx := Nat.mul_le_mul_right _ (by omega)
                  rw [Nat.add_mul, hJ, hA] at h5
                  omega
                have HIJ : Hid (∀ k, k < nx → I + k ≠ J + k) := Lib.hid (fun k hk e => Hij.out (row_inj (r := i) (j := j) hk hk (by rw [hI, hJ]; exact e)).1)
                have HI := Lib.hid hI
                have HJ := Lib.hid hJ
                have hwI : IntKind.i64.wrap (I : Int) = (I : Int) := by rw [IntKind.wrap_i64]; omega
                have hwJ : IntKind.i64.wrap (J : Int) = (J : Int) := by rw [IntKind.wrap_i64]; omega
                clear hA hC hI hJ
                go_loopw [88] (fun c wr => ∃ k : Nat, k ≤ nx ∧ c = .int .i64 k ∧ Hid (wr.ownsRow W5.heap.size 39 1 (.slice (some ⟨gP, 0, none⟩) np cP) np ((L1 p nx i j k).map (Value.int .i64))) ∧ Hid (Chg (fun k => k = gP) w6 wr)) (fun c _ => nx - (intOf c).toNat)
                case atStart => exact ⟨0, Nat.zero_le _, rfl, Hown6.out, Chg.refl _ _⟩
                case round =>
                  obtain ⟨k, hk, rfl, hown, hch⟩ := hrel
                  have hzr := hch.out.size
                  have c1 : wr.cell? ⟨w.heap.size, 1, none⟩ = some (.slice (some ⟨bp, op, none⟩) np cp) := (hch.out.cell hww hgw).trans h61
                  by_cases hlt : k < nx
                  · obtain ⟨X, hX⟩ : ∃ X, I + k = X := ⟨_, rfl⟩
                    obtain ⟨Y, hY⟩ : ∃ Y, J + k = Y := ⟨_, rfl⟩
                    have hXY : X ≠ Y := by rw [← hX, ← hY]; exact HIJ.out k hlt
                    have hXi : (I : Int) + (k : Int) = (X : Int) := by omega
                    have hYi : (J : Int) + (k : Int) = (Y : Int) := by omega
                    have hwX : IntKind.i64.wrap (X : Int) = (X : Int) := by rw [IntKind.wrap_i64]; omega
                    have hwY : IntKind.i64.wrap (Y : Int) = (Y : Int) := by rw [IntKind.wrap_i64]; omega
                    have hXn : (X : Int) < (np : Int) := by omega
                    have hYn : (Y : Int) < (np : Int) := by omega
                    have hX0 : (0 : Int) ≤ (X : Int) := by omega
                    have hY0 : (0 : Int) ≤ (Y : Int) := by omega
                    have Hs : Hid (L1 p nx i j (k + 1) = sw (L1 p nx i j k) p X Y) := Lib.hid (by simp only [L1]; rw [HI.out, HJ.out, hX, hY])
                    clear hX hY
                    obtain ⟨_, _, ee, _, cX⟩ := HP6.out.at (i := X) (by omega)
                    cases ee
                    obtain ⟨_, _, ee, _, cY⟩ := HP6.out.at (i := Y) (by omega)
                    cases ee
                    have cX := (hch.out.cell hbpw hgb).trans cX
                    have cY := (hch.out.cell hbpw hgb).trans cY
                    obtain ⟨_, ee, _, hgl, uX, vX⟩ := ownsRow_at hown.out (i := X) (by omega)
                    cases ee
                    obtain ⟨_, ee, _, _, uY, vY⟩ := ownsRow_at hown.out (i := Y) (by omega)
                    cases ee
                    rw [map_someH (n := np) (by rw [L1_len]; exact Hpl.out) (by omega)] at uX uY
                    have Hset := Lib.hid (ownsRow_set (ownsRow_set (ownsRow_kept hown.out ((Below.refl _ _).drew)) (i := X) (by omega) (.int .i64 (p[Y]?.getD 0))) (i := Y) (by omega) (.int .i64 (p[X]?.getD 0)))
                    rw [set_map, set_map] at Hset
                    change Hid (World.ownsRow _ _ _ _ _ _ ((sw (L1 p nx i j k) p X Y).map (Value.int .i64))) at Hset
                    generalize hzX : p[X]?.getD 0 = zX at cX Hset
                    generalize hzY : p[Y]?.getD 0 = zY at cY Hset
                    clear hzX hzY
                    generalize (L1 p nx i j k)[X]?.getD 0 = oX at uX
                    generalize (L1 p nx i j k)[Y]?.getD 0 = oY at uY
                    have lX : bp < wr.heap.size := by omega
                    have lW : w.heap.size < wr.heap.size := by omega
                    go_wp2
                    refine wp_region_held_drew (S := fun w' => Chg (fun k => k = gP) wr w') (by kernel_rfl) ?_ (fun hHeld => ?_)
                    · exact (Chg.refl _ _).drew
                    refine tkW (v := ?_) 0 rfl (by kernel_rfl) (by kernel_rfl) (by kernel_rfl) (fun _ _ _ h => h) (by rfl) (by assumption) ?_ ?_
                    rotate_left
                    · intro w' hSw; clear hSw; go_simp; (try with_reducible rfl)
                    (try simp only [Act.put, List.setIfInBounds_toArray, List.set_cons_zero, List.set_cons_succ])
                    refine tkW (v := ?_) 1 rfl (by kernel_rfl) (by kernel_rfl) (by kernel_rfl) (fun _ _ _ h => h) (by rfl) (by assumption) ?_ ?_
                    rotate_left
                    · intro w' hSw; clear hSw; go_simp; (try with_reducible rfl)
                    (try simp only [Act.put, List.setIfInBounds_toArray, List.set_cons_zero, List.set_cons_succ])
                    refine tkW (v := ?_) 2 rfl (by kernel_rfl) (by kernel_rfl) (by kernel_rfl) (fun _ _ _ h => h) (by rfl) (by assumption) ?_ ?_
                    rotate_left
                    · intro w' hSw; clear hSw; go_simp; (try with_reducible rfl)
                    (try simp only [Act.put, List.setIfInBounds_toArray, List.set_cons_zero, List.set_cons_succ])
                    refine tkW (v := ?_) 3 rfl (by kernel_rfl) (by kernel_rfl) (by kernel_rfl) (fun _ _ _ h => h) (by rfl) (by assumption) ?_ ?_
                    rotate_left
                    · intro w' hSw; clear hSw; go_simp; (try with_reducible rfl)
                    (try simp only [Act.put, List.setIfInBounds_toArray, List.set_cons_zero, List.set_cons_succ])
                    refine tkW (v := ?_) 4 rfl (by kernel_rfl) (by kernel_rfl) (by kernel_rfl) (fun _ _ _ h => h) (by rfl) (by assumption) ?_ ?_
                    rotate_left
                    · intro w' hSw; clear hSw; go_simp; (try with_reducible rfl)
                    (try simp only [Act.put, List.setIfInBounds_toArray, List.set_cons_zero, List.set_cons_succ])
                    refine tkW (v := ?_) 5 rfl (by kernel_rfl) (by kernel_rfl) (by kernel_rfl) (fun _ _ _ h => h) (by rfl) (by assumption) ?_ ?_
                    rotate_left
                    · intro w' hSw; clear hSw; go_simp; (try with_reducible rfl)
                    (try simp only [Act.put, List.setIfInBounds_toArray, List.set_cons_zero, List.set_cons_succ])
                    refine tkW (v := ?_) 6 rfl (by kernel_rfl) (by kernel_rfl) (by kernel_rfl) (fun _ _ _ h => h) (by rfl) (by assumption) ?_ ?_
                    rotate_left
                    · intro w' hSw; clear hSw; go_simp; (try with_reducible rfl)
                    (try simp only [Act.put, List.setIfInBounds_toArray, List.set_cons_zero, List.set_cons_succ])
                    refine tkW (v := ?_) 7 rfl (by kernel_rfl) (by kernel_rfl) (by kernel_rfl) (fun _ _ _ h => h) (by rfl) (by assumption) ?_ ?_
                    rotate_left
                    · intro w' hSw; clear hSw; go_simp; (try with_reducible rfl)
                    (try simp only [Act.put, List.setIfInBounds_toArray, List.set_cons_zero, List.set_cons_succ])
                    refine tkW (v := ?_) 8 rfl (by kernel_rfl) (by kernel_rfl) (by kernel_rfl) (fun _ _ _ h => h) (by rfl) (by assumption) ?_ ?_
                    rotate_left
                    · intro w' hSw; clear hSw; go_simp; (try with_reducible rfl)
                    (try simp only [Act.put, List.setIfInBounds_toArray, List.set_cons_zero, List.set_cons_succ])
                    refine tkW (v := ?_) 9 rfl (by kernel_rfl) (by kernel_rfl) (by kernel_rfl) (fun _ _ _ h => h) (by rfl) (by assumption) ?_ ?_
                    rotate_left
                    · intro w' hSw; clear hSw; go_simp; (try with_reducible rfl)
                    (try simp only [Act.put, List.setIfInBounds_toArray, List.set_cons_zero, List.set_cons_succ])
                    refine tkW (v := ?_) 10 rfl (by kernel_rfl) (by kernel_rfl) (by kernel_rfl) (fun _ _ _ h => h) (by rfl) (by assumption) ?_ ?_
                    rotate_left
                    · intro w' hSw; clear hSw; go_simp; (try with_reducible rfl)
                    (try simp only [Act.put, List.setIfInBounds_toArray, List.set_cons_zero, List.set_cons_succ])
                    refine tkW (v := ?_) 11 rfl (by kernel_rfl) (by kernel_rfl) (by kernel_rfl) (fun _ _ _ h => h) (by rfl) (by assumption) ?_ ?_
                    rotate_left
                    · intro w' hSw; clear hSw; go_simp; (try with_reducible rfl)
                    (try simp only [Act.put, List.setIfInBounds_toArray, List.set_cons_zero, List.set_cons_succ])
                    refine tkW (v := ?_) 12 rfl (by kernel_rfl) (by kernel_rfl) (by kernel_rfl) (fun _ _ _ h => h) (by rfl) (by assumption) ?_ ?_
                    rotate_left
                    · intro w' hSw; clear hSw; go_simp; (try with_reducible rfl)
                    (try simp only [Act.put, List.setIfInBounds_toArray, List.set_cons_zero, List.set_cons_succ])
                    refine tkW (v := ?_) 13 rfl (by kernel_rfl) (by kernel_rfl) (by kernel_rfl) (fun _ _ _ h => h) (by rfl) (by assumption) ?_ ?_
                    rotate_left
                    · intro w' hSw; (try dsimp only at hSw); have kc1 : w'.cell? ⟨w.heap.size, 1, none⟩ = some (.slice (some ⟨bp, op, none⟩) np cp) := (hSw.cell lW hgw).trans c1; have kcX : w'.cell? ⟨bp, op + X, none⟩ = some (.int .i64 zX) := (hSw.cell lX hgb).trans cX; have kcY : w'.cell? ⟨bp, op + Y, none⟩ = some (.int .i64 zY) := (hSw.cell lX hgb).trans cY; clear hSw; go_simp; (try with_reducible rfl)
                    (try simp only [Act.put, List.setIfInBounds_toArray, List.set_cons_zero, List.set_cons_succ])
                    refine tkW (v := ?_) 14 rfl (by kernel_rfl) (by kernel_rfl) (by kernel_rfl) (fun _ _ _ h => h) (by rfl) (by assumption) ?_ ?_
                    rotate_left
                    · intro w' hSw; clear hSw; go_simp; (try with_reducible rfl)
                    (try simp only [Act.put, List.setIfInBounds_toArray, List.set_cons_zero, List.set_cons_succ])
                    refine tkW (v := ?_) 15 rfl (by kernel_rfl) (by kernel_rfl) (by kernel_rfl) (fun _ _ _ h => h) (by rfl) (by assumption) ?_ ?_
                    rotate_left
                    · intro w' hSw; clear hSw; go_simp; (try with_reducible rfl)
                    (try simp only [Act.put, List.setIfInBounds_toArray, List.set_cons_zero, List.set_cons_succ])
                    refine tkW (v := ?_) 16 rfl (by kernel_rfl) (by kernel_rfl) (by kernel_rfl) (fun _ _ _ h => h) (by rfl) (by assumption) ?_ ?_
                    rotate_left
                    · intro w' hSw; clear hSw; go_simp; (try with_reducible rfl)
                    (try simp only [Act.put, List.setIfInBounds_toArray, List.set_cons_zero, List.set_cons_succ])
                    refine tkW (v := ?_) 17 rfl (by kernel_rfl) (by kernel_rfl) (by kernel_rfl) (fun _ _ _ h => h) (by rfl) (by assumption) ?_ ?_
                    rotate_left
                    · intro w' hSw; clear hSw; go_simp; (try with_reducible rfl)
                    (try simp only [Act.put, List.setIfInBounds_toArray, List.set_cons_zero, List.set_cons_succ])
                    refine tkW (v := ?_) 18 rfl (by kernel_rfl) (by kernel_rfl) (by kernel_rfl) (fun _ _ _ h => h) (by rfl) (by assumption) ?_ ?_
                    rotate_left
                    · intro w' hSw; clear hSw; go_simp; (try with_reducible rfl)
                    (try simp only [Act.put, List.setIfInBounds_toArray, List.set_cons_zero, List.set_cons_succ])
                    refine tkW (v := ?_) 19 rfl (by kernel_rfl) (by kernel_rfl) (by kernel_rfl) (fun _ _ _ h => h) (by rfl) (by assumption) ?_ ?_
                    rotate_left
                    · intro w' hSw; clear hSw; go_simp; (try with_reducible rfl)
                    (try simp only [Act.put, List.setIfInBounds_toArray, List.set_cons_zero, List.set_cons_succ])
                    refine tkW (v := ?_) 20 rfl (by kernel_rfl) (by kernel_rfl) (by kernel_rfl) (fun _ _ _ h => h) (by rfl) (by assumption) ?_ ?_
                    rotate_left
                    · intro w' hSw; (try dsimp only at hSw); have kc1 : w'.cell? ⟨w.heap.size, 1, none⟩ = some (.slice (some ⟨bp, op, none⟩) np cp) := (hSw.cell lW hgw).trans c1; have kcX : w'.cell? ⟨bp, op + X, none⟩ = some (.int .i64 zX) := (hSw.cell lX hgb).trans cX; have kcY : w'.cell? ⟨bp, op + Y, none⟩ = some (.int .i64 zY) := (hSw.cell lX hgb).trans cY; clear hSw; go_simp; (try with_reducible rfl)
                    (try simp only [Act.put, List.setIfInBounds_toArray, List.set_cons_zero, List.set_cons_succ])
                    refine tkW (v := ?_) 21 rfl (by kernel_rfl) (by kernel_rfl) (by kernel_rfl) (fun _ _ _ h => h) (by rfl) (by assumption) ?_ ?_
                    rotate_left
                    · intro w' hSw; clear hSw; go_simp; (try with_reducible rfl)
                    (try simp only [Act.put, List.setIfInBounds_toArray, List.set_cons_zero, List.set_cons_succ])
                    refine tkW (v := ?_) 22 rfl (by kernel_rfl) (by kernel_rfl) (by kernel_rfl) (fun _ _ _ h => h) (by rfl) (by assumption) ?_ ?_
                    rotate_left
                    · intro w' hSw; (try dsimp only at hSw); have kc1 : w'.cell? ⟨w.heap.size, 1, none⟩ = some (.slice (some ⟨bp, op, none⟩) np cp) := (hSw.cell lW hgw).trans c1; have kcX : w'.cell? ⟨bp, op + X, none⟩ = some (.int .i64 zX) := (hSw.cell lX hgb).trans cX; have kcY : w'.cell? ⟨bp, op + Y, none⟩ = some (.int .i64 zY) := (hSw.cell lX hgb).trans cY; clear hSw; go_simp; (try with_reducible rfl)
                    (try simp only [Act.put, List.setIfInBounds_toArray, List.set_cons_zero, List.set_cons_succ])
                    refine tkW (v := ?_) 23 rfl (by kernel_rfl) (by kernel_rfl) (by kernel_rfl) (fun _ _ _ h => h) (by rfl) (by assumption) ?_ ?_
                    rotate_left
                    · intro w' hSw; clear hSw; go_simp; (try with_reducible rfl)
                    (try simp only [Act.put, List.setIfInBounds_toArray, List.set_cons_zero, List.set_cons_succ])
                    refine tkW (v := ?_) 24 rfl (by kernel_rfl) (by kernel_rfl) (by kernel_rfl) (fun _ _ _ h => h) (by rfl) (by assumption) ?_ ?_
                    rotate_left
                    · intro w' hSw; clear hSw; go_simp; (try with_reducible rfl)
                    (try simp only [Act.put, List.setIfInBounds_toArray, List.set_cons_zero, List.set_cons_succ])
                    refine tkW (v := ?_) 25 rfl (by kernel_rfl) (by kernel_rfl) (by kernel_rfl) (fun _ _ _ h => h) (by rfl) (by assumption) ?_ ?_
                    rotate_left
                    · intro w' hSw; clear hSw; go_simp; (try with_reducible rfl)
                    (try simp only [Act.put, List.setIfInBounds_toArray, List.set_cons_zero, List.set_cons_succ])
                    refine tkW (v := ?_) 26 rfl (by kernel_rfl) (by kernel_rfl) (by kernel_rfl) (fun _ _ _ h => h) (by rfl) (by assumption) ?_ ?_
                    rotate_left
                    · intro w' hSw; clear hSw; go_simp; (try with_reducible rfl)
                    (try simp only [Act.put, List.setIfInBounds_toArray, List.set_cons_zero, List.set_cons_succ])
                    refine tkW (v := ?_) 27 rfl (by kernel_rfl) (by kernel_rfl) (by kernel_rfl) (fun _ _ _ h => h) (by rfl) (by assumption) ?_ ?_
                    rotate_left
                    · intro w' hSw; clear hSw; go_simp; (try with_reducible rfl)
                    (try simp only [Act.put, List.setIfInBounds_toArray, List.set_cons_zero, List.set_cons_succ])
                    refine tkW (v := ?_) 28 rfl (by kernel_rfl) (by kernel_rfl) (by kernel_rfl) (fun _ _ _ h => h) (by rfl) (by assumption) ?_ ?_
                    rotate_left
                    · intro w' hSw; clear hSw; go_simp; (try with_reducible rfl)
                    (try simp only [Act.put, List.setIfInBounds_toArray, List.set_cons_zero, List.set_cons_succ])
                    refine tkW (v := ?_) 29 rfl (by kernel_rfl) (by kernel_rfl) (by kernel_rfl) (fun _ _ _ h => h) (by rfl) (by assumption) ?_ ?_
                    rotate_left
                    · intro w' hSw; (try dsimp only at hSw); have kc1 : w'.cell? ⟨w.heap.size, 1, none⟩ = some (.slice (some ⟨bp, op, none⟩) np cp) := (hSw.cell lW hgw).trans c1; have kcX : w'.cell? ⟨bp, op + X, none⟩ = some (.int .i64 zX) := (hSw.cell lX hgb).trans cX; have kcY : w'.cell? ⟨bp, op + Y, none⟩ = some (.int .i64 zY) := (hSw.cell lX hgb).trans cY; clear hSw; go_simp; (try with_reducible rfl)
                    (try simp only [Act.put, List.setIfInBounds_toArray, List.set_cons_zero, List.set_cons_succ])
                    refine tkW (v := ?_) 30 rfl (by kernel_rfl) (by kernel_rfl) (by kernel_rfl) (fun _ _ _ h => h) (by rfl) (by assumption) ?_ ?_
                    rotate_left
                    · intro w' hSw; clear hSw; go_simp; (try with_reducible rfl)
                    (try simp only [Act.put, List.setIfInBounds_toArray, List.set_cons_zero, List.set_cons_succ])
                    refine tkC 31 rfl (by kernel_rfl) (by rfl) (fun K hK => ?_)
                    go_simp
                    refine hK.out _ _ ?_ (fun hHeld => ?_)
                    · exact hHeld.setCell_in _ (show gP = gP from rfl) _
                    clear hK K
                    (try simp only [Act.put, List.setIfInBounds_toArray, List.set_cons_zero, List.set_cons_succ])
                    refine tkW (v := ?_) 32 rfl (by kernel_rfl) (by kernel_rfl) (by kernel_rfl) (fun _ _ _ h => h) (by rfl) (by assumption) ?_ ?_
                    rotate_left
                    · intro w' hSw; clear hSw; go_simp; (try with_reducible rfl)
                    (try simp only [Act.put, List.setIfInBounds_toArray, List.set_cons_zero, List.set_cons_succ])
                    refine tkC 33 rfl (by kernel_rfl) (by rfl) (fun K hK => ?_)
                    go_simp
                    refine hK.out _ _ ?_ (fun hHeld => ?_)
                    · exact hHeld.setCell_in _ (show gP = gP from rfl) _
                    clear hK K
                    (try simp only [Act.put, List.setIfInBounds_toArray, List.set_cons_zero, List.set_cons_succ])
                    refine wpAnyH_done (by kernel_rfl) ?_ _
                    have HchN := Lib.hid (hch.out.trans hHeld)
                    clear hHeld uX uY vX vY cX cY
                    go_wp2
                    go_roundw
                    case rel => exact ⟨k + 1, by omega, by go_num, Lib.hid (by rw [Hs.out]; exact Hset.out), HchN.out⟩
                    case measure => simp [intOf]; omega
                  · obtain rfl : nx = k := by omega
                    obtain ⟨X, hX⟩ : ∃ X, A + i = X := ⟨_, rfl⟩
                    obtain ⟨Y, hY⟩ : ∃ Y, A + j = Y := ⟨_, rfl⟩
                    have hXY : X ≠ Y := by have := Hij.out; omega
                    have hXi : (A : Int) + (i : Int) = (X : Int) := by omega
                    have hYi : (A : Int) + (j : Int) = (Y : Int) := by omega
                    have hwX : IntKind.i64.wrap (X : Int) = (X : Int) := by rw [IntKind.wrap_i64]; omega
                    have hwY : IntKind.i64.wrap (Y : Int) = (Y : Int) := by rw [IntKind.wrap_i64]; omega
                    have hXn : (X : Int) < (np : Int) := by omega
                    have hYn : (Y : Int) < (np : Int) := by omega
                    have hX0 : (0 : Int) ≤ (X : Int) := by omega
                    have hY0 : (0 : Int) ≤ (Y : Int) := by omega
                    have Hs : Hid (L2 p nx A i j = sw (L1 p nx i j nx) p X Y) := Lib.hid (by unfold L2; rw [hX, hY])
                    clear hX hY
                    obtain ⟨_, _, ee, _, cX⟩ := HP6.out.at (i := X) (by omega)
                    cases ee
                    obtain ⟨_, _, ee, _, cY⟩ := HP6.out.at (i := Y) (by omega)
                    cases ee
                    have cX := (hch.out.cell hbpw hgb).trans cX
                    have cY := (hch.out.cell hbpw hgb).trans cY
                    obtain ⟨_, ee, _, hgl, uX, vX⟩ := ownsRow_at hown.out (i := X) (by omega)
                    cases ee
                    obtain ⟨_, ee, _, _, uY, vY⟩ := ownsRow_at hown.out (i := Y) (by omega)
                    cases ee
                    rw [map_someH (n := np) (by rw [L1_len]; exact Hpl.out) (by omega)] at uX uY
                    have Hset := Lib.hid (ownsRow_set (ownsRow_set (ownsRow_kept hown.out ((Below.refl _ _).drew)) (i := X) (by omega) (.int .i64 (p[Y]?.getD 0))) (i := Y) (by omega) (.int .i64 (p[X]?.getD 0)))
                    rw [set_map, set_map] at Hset
                    change Hid (World.ownsRow _ _ _ _ _ _ ((sw (L1 p nx i j nx) p X Y).map (Value.int .i64))) at Hset
                    generalize hzX : p[X]?.getD 0 = zX at cX Hset
                    generalize hzY : p[Y]?.getD 0 = zY at cY Hset
                    clear hzX hzY
                    generalize (L1 p nx i j nx)[X]?.getD 0 = oX at uX
                    generalize (L1 p nx i j nx)[Y]?.getD 0 = oY at uY
                    have lX : bp < wr.heap.size := by omega
                    have lW : w.heap.size < wr.heap.size := by omega
                    go_wp2
                    refine wp_region_held_drew (S := fun w' => Chg (fun k => k = gP) wr w') (by kernel_rfl) ?_ (fun hHeld => ?_)
                    · exact (Chg.refl _ _).drew
                    refine tkW (v := ?_) 0 rfl (by kernel_rfl) (by kernel_rfl) (by kernel_rfl) (fun _ _ _ h => h) (by rfl) (by assumption) ?_ ?_
                    rotate_left
                    · intro w' hSw; clear hSw; go_simp; (try with_reducible rfl)
                    (try simp only [Act.put, List.setIfInBounds_toArray, List.set_cons_zero, List.set_cons_succ])
                    refine tkW (v := ?_) 1 rfl (by kernel_rfl) (by kernel_rfl) (by kernel_rfl) (fun _ _ _ h => h) (by rfl) (by assumption) ?_ ?_
                    rotate_left
                    · intro w' hSw; clear hSw; go_simp; (try with_reducible rfl)
                    (try simp only [Act.put, List.setIfInBounds_toArray, List.set_cons_zero, List.set_cons_succ])
                    refine tkW (v := ?_) 2 rfl (by kernel_rfl) (by kernel_rfl) (by kernel_rfl) (fun _ _ _ h => h) (by rfl) (by assumption) ?_ ?_
                    rotate_left
                    · intro w' hSw; clear hSw; go_simp; (try with_reducible rfl)
                    (try simp only [Act.put, List.setIfInBounds_toArray, List.set_cons_zero, List.set_cons_succ])
                    refine tkW (v := ?_) 3 rfl (by kernel_rfl) (by kernel_rfl) (by kernel_rfl) (fun _ _ _ h => h) (by rfl) (by assumption) ?_ ?_
                    rotate_left
                    · intro w' hSw; clear hSw; go_simp; (try with_reducible rfl)
                    (try simp only [Act.put, List.setIfInBounds_toArray, List.set_cons_zero, List.set_cons_succ])
                    refine tkW (v := ?_) 4 rfl (by kernel_rfl) (by kernel_rfl) (by kernel_rfl) (fun _ _ _ h => h) (by rfl) (by assumption) ?_ ?_
                    rotate_left
                    · intro w' hSw; clear hSw; go_simp; (try with_reducible rfl)
                    (try simp only [Act.put, List.setIfInBounds_toArray, List.set_cons_zero, List.set_cons_succ])
                    refine tkW (v := ?_) 5 rfl (by kernel_rfl) (by kernel_rfl) (by kernel_rfl) (fun _ _ _ h => h) (by rfl) (by assumption) ?_ ?_
                    rotate_left
                    · intro w' hSw; clear hSw; go_simp; (try with_reducible rfl)
                    (try simp only [Act.put, List.setIfInBounds_toArray, List.set_cons_zero, List.set_cons_succ])
                    refine tkW (v := ?_) 6 rfl (by kernel_rfl) (by kernel_rfl) (by kernel_rfl) (fun _ _ _ h => h) (by rfl) (by assumption) ?_ ?_
                    rotate_left
                    · intro w' hSw; clear hSw; go_simp; (try with_reducible rfl)
                    (try simp only [Act.put, List.setIfInBounds_toArray, List.set_cons_zero, List.set_cons_succ])
                    refine tkW (v := ?_) 7 rfl (by kernel_rfl) (by kernel_rfl) (by kernel_rfl) (fun _ _ _ h => h) (by rfl) (by assumption) ?_ ?_
                    rotate_left
                    · intro w' hSw; clear hSw; go_simp; (try with_reducible rfl)
                    (try simp only [Act.put, List.setIfInBounds_toArray, List.set_cons_zero, List.set_cons_succ])
                    refine tkW (v := ?_) 8 rfl (by kernel_rfl) (by kernel_rfl) (by kernel_rfl) (fun _ _ _ h => h) (by rfl) (by assumption) ?_ ?_
                    rotate_left
                    · intro w' hSw; clear hSw; go_simp; (try with_reducible rfl)
                    (try simp only [Act.put, List.setIfInBounds_toArray, List.set_cons_zero, List.set_cons_succ])
                    refine tkW (v := ?_) 9 rfl (by kernel_rfl) (by kernel_rfl) (by kernel_rfl) (fun _ _ _ h => h) (by rfl) (by assumption) ?_ ?_
                    rotate_left
                    · intro w' hSw; clear hSw; go_simp; (try with_reducible rfl)
                    (try simp only [Act.put, List.setIfInBounds_toArray, List.set_cons_zero, List.set_cons_succ])
                    refine tkW (v := ?_) 10 rfl (by kernel_rfl) (by kernel_rfl) (by kernel_rfl) (fun _ _ _ h => h) (by rfl) (by assumption) ?_ ?_
                    rotate_left
                    · intro w' hSw; clear hSw; go_simp; (try with_reducible rfl)
                    (try simp only [Act.put, List.setIfInBounds_toArray, List.set_cons_zero, List.set_cons_succ])
                    refine tkW (v := ?_) 11 rfl (by kernel_rfl) (by kernel_rfl) (by kernel_rfl) (fun _ _ _ h => h) (by rfl) (by assumption) ?_ ?_
                    rotate_left
                    · intro w' hSw; clear hSw; go_simp; (try with_reducible rfl)
                    (try simp only [Act.put, List.setIfInBounds_toArray, List.set_cons_zero, List.set_cons_succ])
                    refine tkW (v := ?_) 12 rfl (by kernel_rfl) (by kernel_rfl) (by kernel_rfl) (fun _ _ _ h => h) (by rfl) (by assumption) ?_ ?_
                    rotate_left
                    · intro w' hSw; clear hSw; go_simp; (try with_reducible rfl)
                    (try simp only [Act.put, List.setIfInBounds_toArray, List.set_cons_zero, List.set_cons_succ])
                    refine tkW (v := ?_) 13 rfl (by kernel_rfl) (by kernel_rfl) (by kernel_rfl) (fun _ _ _ h => h) (by rfl) (by assumption) ?_ ?_
                    rotate_left
                    · intro w' hSw; (try dsimp only at hSw); have kc1 : w'.cell? ⟨w.heap.size, 1, none⟩ = some (.slice (some ⟨bp, op, none⟩) np cp) := (hSw.cell lW hgw).trans c1; have kcX : w'.cell? ⟨bp, op + X, none⟩ = some (.int .i64 zX) := (hSw.cell lX hgb).trans cX; have kcY : w'.cell? ⟨bp, op + Y, none⟩ = some (.int .i64 zY) := (hSw.cell lX hgb).trans cY; clear hSw; go_simp; (try with_reducible rfl)
                    (try simp only [Act.put, List.setIfInBounds_toArray, List.set_cons_zero, List.set_cons_succ])
                    refine tkW (v := ?_) 14 rfl (by kernel_rfl) (by kernel_rfl) (by kernel_rfl) (fun _ _ _ h => h) (by rfl) (by assumption) ?_ ?_
                    rotate_left
                    · intro w' hSw; clear hSw; go_simp; (try with_reducible rfl)
                    (try simp only [Act.put, List.setIfInBounds_toArray, List.set_cons_zero, List.set_cons_succ])
                    refine tkW (v := ?_) 15 rfl (by kernel_rfl) (by kernel_rfl) (by kernel_rfl) (fun _ _ _ h => h) (by rfl) (by assumption) ?_ ?_
                    rotate_left
                    · intro w' hSw; clear hSw; go_simp; (try with_reducible rfl)
                    (try simp only [Act.put, List.setIfInBounds_toArray, List.set_cons_zero, List.set_cons_succ])
                    refine tkW (v := ?_) 16 rfl (by kernel_rfl) (by kernel_rfl) (by kernel_rfl) (fun _ _ _ h => h) (by rfl) (by assumption) ?_ ?_
                    rotate_left
                    · intro w' hSw; clear hSw; go_simp; (try with_reducible rfl)
                    (try simp only [Act.put, List.setIfInBounds_toArray, List.set_cons_zero, List.set_cons_succ])
                    refine tkW (v := ?_) 17 rfl (by kernel_rfl) (by kernel_rfl) (by kernel_rfl) (fun _ _ _ h => h) (by rfl) (by assumption) ?_ ?_
                    rotate_left
                    · intro w' hSw; clear hSw; go_simp; (try with_reducible rfl)
                    (try simp only [Act.put, List.setIfInBounds_toArray, List.set_cons_zero, List.set_cons_succ])
                    refine tkW (v := ?_) 18 rfl (by kernel_rfl) (by kernel_rfl) (by kernel_rfl) (fun _ _ _ h => h) (by rfl) (by assumption) ?_ ?_
                    rotate_left
                    · intro w' hSw; clear hSw; go_simp; (try with_reducible rfl)
                    (try simp only [Act.put, List.setIfInBounds_toArray, List.set_cons_zero, List.set_cons_succ])
                    refine tkW (v := ?_) 19 rfl (by kernel_rfl) (by kernel_rfl) (by kernel_rfl) (fun _ _ _ h => h) (by rfl) (by assumption) ?_ ?_
                    rotate_left
                    · intro w' hSw; clear hSw; go_simp; (try with_reducible rfl)
                    (try simp only [Act.put, List.setIfInBounds_toArray, List.set_cons_zero, List.set_cons_succ])
                    refine tkW (v := ?_) 20 rfl (by kernel_rfl) (by kernel_rfl) (by kernel_rfl) (fun _ _ _ h => h) (by rfl) (by assumption) ?_ ?_
                    rotate_left
                    · intro w' hSw; (try dsimp only at hSw); have kc1 : w'.cell? ⟨w.heap.size, 1, none⟩ = some (.slice (some ⟨bp, op, none⟩) np cp) := (hSw.cell lW hgw).trans c1; have kcX : w'.cell? ⟨bp, op + X, none⟩ = some (.int .i64 zX) := (hSw.cell lX hgb).trans cX; have kcY : w'.cell? ⟨bp, op + Y, none⟩ = some (.int .i64 zY) := (hSw.cell lX hgb).trans cY; clear hSw; go_simp; (try with_reducible rfl)
                    (try simp only [Act.put, List.setIfInBounds_toArray, List.set_cons_zero, List.set_cons_succ])
                    refine tkW (v := ?_) 21 rfl (by kernel_rfl) (by kernel_rfl) (by kernel_rfl) (fun _ _ _ h => h) (by rfl) (by assumption) ?_ ?_
                    rotate_left
                    · intro w' hSw; clear hSw; go_simp; (try with_reducible rfl)
                    (try simp only [Act.put, List.setIfInBounds_toArray, List.set_cons_zero, List.set_cons_succ])
                    refine tkW (v := ?_) 22 rfl (by kernel_rfl) (by kernel_rfl) (by kernel_rfl) (fun _ _ _ h => h) (by rfl) (by assumption) ?_ ?_
                    rotate_left
                    · intro w' hSw; (try dsimp only at hSw); have kc1 : w'.cell? ⟨w.heap.size, 1, none⟩ = some (.slice (some ⟨bp, op, none⟩) np cp) := (hSw.cell lW hgw).trans c1; have kcX : w'.cell? ⟨bp, op + X, none⟩ = some (.int .i64 zX) := (hSw.cell lX hgb).trans cX; have kcY : w'.cell? ⟨bp, op + Y, none⟩ = some (.int .i64 zY) := (hSw.cell lX hgb).trans cY; clear hSw; go_simp; (try with_reducible rfl)
                    (try simp only [Act.put, List.setIfInBounds_toArray, List.set_cons_zero, List.set_cons_succ])
                    refine tkW (v := ?_) 23 rfl (by kernel_rfl) (by kernel_rfl) (by kernel_rfl) (fun _ _ _ h => h) (by rfl) (by assumption) ?_ ?_
                    rotate_left
                    · intro w' hSw; clear hSw; go_simp; (try with_reducible rfl)
                    (try simp only [Act.put, List.setIfInBounds_toArray, List.set_cons_zero, List.set_cons_succ])
                    refine tkW (v := ?_) 24 rfl (by kernel_rfl) (by kernel_rfl) (by kernel_rfl) (fun _ _ _ h => h) (by rfl) (by assumption) ?_ ?_
                    rotate_left
                    · intro w' hSw; clear hSw; go_simp; (try with_reducible rfl)
                    (try simp only [Act.put, List.setIfInBounds_toArray, List.set_cons_zero, List.set_cons_succ])
                    refine tkW (v := ?_) 25 rfl (by kernel_rfl) (by kernel_rfl) (by kernel_rfl) (fun _ _ _ h => h) (by rfl) (by assumption) ?_ ?_
                    rotate_left
                    · intro w' hSw; clear hSw; go_simp; (try with_reducible rfl)
                    (try simp only [Act.put, List.setIfInBounds_toArray, List.set_cons_zero, List.set_cons_succ])
                    refine tkW (v := ?_) 26 rfl (by kernel_rfl) (by kernel_rfl) (by kernel_rfl) (fun _ _ _ h => h) (by rfl) (by assumption) ?_ ?_
                    rotate_left
                    · intro w' hSw; clear hSw; go_simp; (try with_reducible rfl)
                    (try simp only [Act.put, List.setIfInBounds_toArray, List.set_cons_zero, List.set_cons_succ])
                    refine tkW (v := ?_) 27 rfl (by kernel_rfl) (by kernel_rfl) (by kernel_rfl) (fun _ _ _ h => h) (by rfl) (by assumption) ?_ ?_
                    rotate_left
                    · intro w' hSw; clear hSw; go_simp; (try with_reducible rfl)
                    (try simp only [Act.put, List.setIfInBounds_toArray, List.set_cons_zero, List.set_cons_succ])
                    refine tkW (v := ?_) 28 rfl (by kernel_rfl) (by kernel_rfl) (by kernel_rfl) (fun _ _ _ h => h) (by rfl) (by assumption) ?_ ?_
                    rotate_left
                    · intro w' hSw; clear hSw; go_simp; (try with_reducible rfl)
                    (try simp only [Act.put, List.setIfInBounds_toArray, List.set_cons_zero, List.set_cons_succ])
                    refine tkW (v := ?_) 29 rfl (by kernel_rfl) (by kernel_rfl) (by kernel_rfl) (fun _ _ _ h => h) (by rfl) (by assumption) ?_ ?_
                    rotate_left
                    · intro w' hSw; (try dsimp only at hSw); have kc1 : w'.cell? ⟨w.heap.size, 1, none⟩ = some (.slice (some ⟨bp, op, none⟩) np cp) := (hSw.cell lW hgw).trans c1; have kcX : w'.cell? ⟨bp, op + X, none⟩ = some (.int .i64 zX) := (hSw.cell lX hgb).trans cX; have kcY : w'.cell? ⟨bp, op + Y, none⟩ = some (.int .i64 zY) := (hSw.cell lX hgb).trans cY; clear hSw; go_simp; (try with_reducible rfl)
                    (try simp only [Act.put, List.setIfInBounds_toArray, List.set_cons_zero, List.set_cons_succ])
                    refine tkW (v := ?_) 30 rfl (by kernel_rfl) (by kernel_rfl) (by kernel_rfl) (fun _ _ _ h => h) (by rfl) (by assumption) ?_ ?_
                    rotate_left
                    · intro w' hSw; clear hSw; go_simp; (try with_reducible rfl)
                    (try simp only [Act.put, List.setIfInBounds_toArray, List.set_cons_zero, List.set_cons_succ])
                    refine tkC 31 rfl (by kernel_rfl) (by rfl) (fun K hK => ?_)
                    go_simp
                    refine hK.out _ _ ?_ (fun hHeld => ?_)
                    · exact hHeld.setCell_in _ (show gP = gP from rfl) _
                    clear hK K
                    (try simp only [Act.put, List.setIfInBounds_toArray, List.set_cons_zero, List.set_cons_succ])
                    refine tkW (v := ?_) 32 rfl (by kernel_rfl) (by kernel_rfl) (by kernel_rfl) (fun _ _ _ h => h) (by rfl) (by assumption) ?_ ?_
                    rotate_left
                    · intro w' hSw; clear hSw; go_simp; (try with_reducible rfl)
                    (try simp only [Act.put, List.setIfInBounds_toArray, List.set_cons_zero, List.set_cons_succ])
                    refine tkC 33 rfl (by kernel_rfl) (by rfl) (fun K hK => ?_)
                    go_simp
                    refine hK.out _ _ ?_ (fun hHeld => ?_)
                    · exact hHeld.setCell_in _ (show gP = gP from rfl) _
                    clear hK K
                    (try simp only [Act.put, List.setIfInBounds_toArray, List.set_cons_zero, List.set_cons_succ])
                    refine wpAnyH_done (by kernel_rfl) ?_ _
                    have HchN := Lib.hid (hch.out.trans hHeld)
                    clear hHeld uX uY vX vY cX cY
                    obtain ⟨M, hM⟩ : ∃ M, A + q1 = M := ⟨_, rfl⟩
                    have hMi : (A : Int) + (q1 : Int) = (M : Int) := by omega
                    have hwM : IntKind.i64.wrap (M : Int) = (M : Int) := by rw [IntKind.wrap_i64]; omega
                    have HM := Lib.hid hM
                    have hMn : M + C + q2 ≤ np := by omega
                    clear hM hXi hYi hwX hwY hXn hYn hX0 hY0 hXY c1
                    go_wp2
                    go_loopw [162] (fun c wr => ∃ o : Nat, o ≤ q2 ∧ c = .int .i64 o ∧ Hid (wr.ownsRow W5.heap.size 39 1 (.slice (some ⟨gP, 0, none⟩) np cP) np ((L3 p nx A q1 (A + q1) i j o).map (Value.int .i64))) ∧ Hid (Chg (fun k => k = gP) w6 wr)) (fun c _ => q2 - (intOf c).toNat)
                    case atStart => exact ⟨0, Nat.zero_le _, rfl, Lib.hid (by simp only [L3]; rw [Hs.out]; exact Hset.out), HchN.out⟩
                    case round =>
                      clear Hset HchN Hs hown hch
                      rename World => wr
                      obtain ⟨o, ho, rfl, hown, hch⟩ := hrel
                      have hzr := hch.out.size
                      have c1 : wr.cell? ⟨w.heap.size, 1, none⟩ = some (.slice (some ⟨bp, op, none⟩) np cp) := (hch.out.cell hww hgw).trans h61
                      have c0 : wr.cell? ⟨w.heap.size, 0, none⟩ = some (.slice (some ⟨bs, os, none⟩) 3 cS) := (hch.out.cell hww hgw).trans h60
                      by_cases hlt : o < q2
                      · obtain ⟨V, hV⟩ : ∃ V, o * q1 = V := ⟨_, rfl⟩
                        have hVi : (o : Int) * (q1 : Int) = (V : Int) := by rw [← hV]; simp
                        have hVC : V + q1 ≤ C := by
                          have h5 : (o + 1) * q1 ≤ q2 * q1 := Nat.mul_le_mul_right _ (by omega)
                          rw [Nat.add_mul, hV, HC.out] at h5
                          omega
                        obtain ⟨Z, hZ⟩ : ∃ Z, M + V = Z := ⟨_, rfl⟩
                        obtain ⟨X, hX⟩ : ∃ X, Z + i = X := ⟨_, rfl⟩
                        obtain ⟨Y, hY⟩ : ∃ Y, Z + j = Y := ⟨_, rfl⟩
                        have hXY : X ≠ Y := by have := Hij.out; omega
                        have hZi : (M : Int) + (V : Int) = (Z : Int) := by omega
                        have hXi : (Z : Int) + (i : Int) = (X : Int) := by omega
                        have hYi : (Z : Int) + (j : Int) = (Y : Int) := by omega
                        have hwV : IntKind.i64.wrap (V : Int) = (V : Int) := by rw [IntKind.wrap_i64]; omega
                        have hwZ : IntKind.i64.wrap (Z : Int) = (Z : Int) := by rw [IntKind.wrap_i64]; omega
                        have hwX : IntKind.i64.wrap (X : Int) = (X : Int) := by rw [IntKind.wrap_i64]; omega
                        have hwY : IntKind.i64.wrap (Y : Int) = (Y : Int) := by rw [IntKind.wrap_i64]; omega
                        have hXn : (X : Int) < (np : Int) := by omega
                        have hYn : (Y : Int) < (np : Int) := by omega
                        have hX0 : (0 : Int) ≤ (X : Int) := by omega
                        have hY0 : (0 : Int) ≤ (Y : Int) := by omega
                        have Hs : Hid (L3 p nx A q1 (A + q1) i j (o + 1) = sw (L3 p nx A q1 (A + q1) i j o) p X Y) := Lib.hid (by simp only [L3]; rw [HM.out, hV, hZ, hX, hY])
                        clear hV hZ hX hY
                        obtain ⟨_, _, ee, _, cX⟩ := HP6.out.at (i := X) (by omega)
                        cases ee
                        obtain ⟨_, _, ee, _, cY⟩ := HP6.out.at (i := Y) (by omega)
                        cases ee
                        have cX := (hch.out.cell hbpw hgb).trans cX
                        have cY := (hch.out.cell hbpw hgb).trans cY
                        obtain ⟨_, ee, _, hgl, uX, vX⟩ := ownsRow_at hown.out (i := X) (by omega)
                        cases ee
                        obtain ⟨_, ee, _, _, uY, vY⟩ := ownsRow_at hown.out (i := Y) (by omega)
                        cases ee
                        rw [map_someH (n := np) (by rw [L3_len]; exact Hpl.out) (by omega)] at uX uY
                        have Hset := Lib.hid (ownsRow_set (ownsRow_set (ownsRow_kept hown.out ((Below.refl _ _).drew)) (i := X) (by omega) (.int .i64 (p[Y]?.getD 0))) (i := Y) (by omega) (.int .i64 (p[X]?.getD 0)))
                        rw [set_map, set_map] at Hset
                        change Hid (World.ownsRow _ _ _ _ _ _ ((sw (L3 p nx A q1 (A + q1) i j o) p X Y).map (Value.int .i64))) at Hset
                        generalize hzX : p[X]?.getD 0 = zX at cX Hset
                        generalize hzY : p[Y]?.getD 0 = zY at cY Hset
                        clear hzX hzY
                        generalize (L3 p nx A q1 (A + q1) i j o)[X]?.getD 0 = oX at uX
                        generalize (L3 p nx A q1 (A + q1) i j o)[Y]?.getD 0 = oY at uY
                        have lX : bp < wr.heap.size := by omega
                        have lW : w.heap.size < wr.heap.size := by omega
                        go_wp2
                        refine wp_region_held_drew (S := fun w' => Chg (fun k => k = gP) wr w') (by kernel_rfl) ?_ (fun hHeld => ?_)
                        · exact (Chg.refl _ _).drew
                        refine tkW (v := ?_) 0 rfl (by kernel_rfl) (by kernel_rfl) (by kernel_rfl) (fun _ _ _ h => h) (by rfl) (by assumption) ?_ ?_
                        rotate_left
                        · intro w' hSw; clear hSw; go_simp; (try with_reducible rfl)
                        (try simp only [Act.put, List.setIfInBounds_toArray, List.set_cons_zero, List.set_cons_succ])
                        refine tkW (v := ?_) 1 rfl (by kernel_rfl) (by kernel_rfl) (by kernel_rfl) (fun _ _ _ h => h) (by rfl) (by assumption) ?_ ?_
                        rotate_left
                        · intro w' hSw; clear hSw; go_simp; (try with_reducible rfl)
                        (try simp only [Act.put, List.setIfInBounds_toArray, List.set_cons_zero, List.set_cons_succ])
                        refine tkW (v := ?_) 2 rfl (by kernel_rfl) (by kernel_rfl) (by kernel_rfl) (fun _ _ _ h => h) (by rfl) (by assumption) ?_ ?_
                        rotate_left
                        · intro w' hSw; clear hSw; go_simp; (try with_reducible rfl)
                        (try simp only [Act.put, List.setIfInBounds_toArray, List.set_cons_zero, List.set_cons_succ])
                        refine tkW (v := ?_) 3 rfl (by kernel_rfl) (by kernel_rfl) (by kernel_rfl) (fun _ _ _ h => h) (by rfl) (by assumption) ?_ ?_
                        rotate_left
                        · intro w' hSw; clear hSw; go_simp; (try with_reducible rfl)
                        (try simp only [Act.put, List.setIfInBounds_toArray, List.set_cons_zero, List.set_cons_succ])
                        refine tkW (v := ?_) 4 rfl (by kernel_rfl) (by kernel_rfl) (by kernel_rfl) (fun _ _ _ h => h) (by rfl) (by assumption) ?_ ?_
                        rotate_left
                        · intro w' hSw; clear hSw; go_simp; (try with_reducible rfl)
                        (try simp only [Act.put, List.setIfInBounds_toArray, List.set_cons_zero, List.set_cons_succ])
                        refine tkW (v := ?_) 5 rfl (by kernel_rfl) (by kernel_rfl) (by kernel_rfl) (fun _ _ _ h => h) (by rfl) (by assumption) ?_ ?_
                        rotate_left
                        · intro w' hSw; clear hSw; go_simp; (try with_reducible rfl)
                        (try simp only [Act.put, List.setIfInBounds_toArray, List.set_cons_zero, List.set_cons_succ])
                        refine tkW (v := ?_) 6 rfl (by kernel_rfl) (by kernel_rfl) (by kernel_rfl) (fun _ _ _ h => h) (by rfl) (by assumption) ?_ ?_
                        rotate_left
                        · intro w' hSw; clear hSw; go_simp; (try with_reducible rfl)
                        (try simp only [Act.put, List.setIfInBounds_toArray, List.set_cons_zero, List.set_cons_succ])
                        refine tkW (v := ?_) 7 rfl (by kernel_rfl) (by kernel_rfl) (by kernel_rfl) (fun _ _ _ h => h) (by rfl) (by assumption) ?_ ?_
                        rotate_left
                        · intro w' hSw; clear hSw; go_simp; (try with_reducible rfl)
                        (try simp only [Act.put, List.setIfInBounds_toArray, List.set_cons_zero, List.set_cons_succ])
                        refine tkW (v := ?_) 8 rfl (by kernel_rfl) (by kernel_rfl) (by kernel_rfl) (fun _ _ _ h => h) (by rfl) (by assumption) ?_ ?_
                        rotate_left
                        · intro w' hSw; clear hSw; go_simp; (try with_reducible rfl)
                        (try simp only [Act.put, List.setIfInBounds_toArray, List.set_cons_zero, List.set_cons_succ])
                        refine tkW (v := ?_) 9 rfl (by kernel_rfl) (by kernel_rfl) (by kernel_rfl) (fun _ _ _ h => h) (by rfl) (by assumption) ?_ ?_
                        rotate_left
                        · intro w' hSw; clear hSw; go_simp; (try with_reducible rfl)
                        (try simp only [Act.put, List.setIfInBounds_toArray, List.set_cons_zero, List.set_cons_succ])
                        refine tkW (v := ?_) 10 rfl (by kernel_rfl) (by kernel_rfl) (by kernel_rfl) (fun _ _ _ h => h) (by rfl) (by assumption) ?_ ?_
                        rotate_left
                        · intro w' hSw; clear hSw; go_simp; (try with_reducible rfl)
                        (try simp only [Act.put, List.setIfInBounds_toArray, List.set_cons_zero, List.set_cons_succ])
                        refine tkW (v := ?_) 11 rfl (by kernel_rfl) (by kernel_rfl) (by kernel_rfl) (fun _ _ _ h => h) (by rfl) (by assumption) ?_ ?_
                        rotate_left
                        · intro w' hSw; clear hSw; go_simp; (try with_reducible rfl)
                        (try simp only [Act.put, List.setIfInBounds_toArray, List.set_cons_zero, List.set_cons_succ])
                        refine tkW (v := ?_) 12 rfl (by kernel_rfl) (by kernel_rfl) (by kernel_rfl) (fun _ _ _ h => h) (by rfl) (by assumption) ?_ ?_
                        rotate_left
                        · intro w' hSw; clear hSw; go_simp; (try with_reducible rfl)
                        (try simp only [Act.put, List.setIfInBounds_toArray, List.set_cons_zero, List.set_cons_succ])
                        refine tkW (v := ?_) 13 rfl (by kernel_rfl) (by kernel_rfl) (by kernel_rfl) (fun _ _ _ h => h) (by rfl) (by assumption) ?_ ?_
                        rotate_left
                        · intro w' hSw; clear hSw; go_simp; (try with_reducible rfl)
                        (try simp only [Act.put, List.setIfInBounds_toArray, List.set_cons_zero, List.set_cons_succ])
                        refine tkW (v := ?_) 14 rfl (by kernel_rfl) (by kernel_rfl) (by kernel_rfl) (fun _ _ _ h => h) (by rfl) (by assumption) ?_ ?_
                        rotate_left
                        · intro w' hSw; clear hSw; go_simp; (try with_reducible rfl)
                        (try simp only [Act.put, List.setIfInBounds_toArray, List.set_cons_zero, List.set_cons_succ])
                        refine tkW (v := ?_) 15 rfl (by kernel_rfl) (by kernel_rfl) (by kernel_rfl) (fun _ _ _ h => h) (by rfl) (by assumption) ?_ ?_
                        rotate_left
                        · intro w' hSw; clear hSw; go_simp; (try with_reducible rfl)
                        (try simp only [Act.put, List.setIfInBounds_toArray, List.set_cons_zero, List.set_cons_succ])
                        refine tkW (v := ?_) 16 rfl (by kernel_rfl) (by kernel_rfl) (by kernel_rfl) (fun _ _ _ h => h) (by rfl) (by assumption) ?_ ?_
                        rotate_left
                        · intro w' hSw; clear hSw; go_simp; (try with_reducible rfl)
                        (try simp only [Act.put, List.setIfInBounds_toArray, List.set_cons_zero, List.set_cons_succ])
                        refine tkW (v := ?_) 17 rfl (by kernel_rfl) (by kernel_rfl) (by kernel_rfl) (fun _ _ _ h => h) (by rfl) (by assumption) ?_ ?_
                        rotate_left
                        · intro w' hSw; (try dsimp only at hSw); have kc1 : w'.cell? ⟨w.heap.size, 1, none⟩ = some (.slice (some ⟨bp, op, none⟩) np cp) := (hSw.cell lW hgw).trans c1; have kcX : w'.cell? ⟨bp, op + X, none⟩ = some (.int .i64 zX) := (hSw.cell lX hgb).trans cX; have kcY : w'.cell? ⟨bp, op + Y, none⟩ = some (.int .i64 zY) := (hSw.cell lX hgb).trans cY; clear hSw; go_simp; (try with_reducible rfl)
                        (try simp only [Act.put, List.setIfInBounds_toArray, List.set_cons_zero, List.set_cons_succ])
                        refine tkW (v := ?_) 18 rfl (by kernel_rfl) (by kernel_rfl) (by kernel_rfl) (fun _ _ _ h => h) (by rfl) (by assumption) ?_ ?_
                        rotate_left
                        · intro w' hSw; clear hSw; go_simp; (try with_reducible rfl)
                        (try simp only [Act.put, List.setIfInBounds_toArray, List.set_cons_zero, List.set_cons_succ])
                        refine tkW (v := ?_) 19 rfl (by kernel_rfl) (by kernel_rfl) (by kernel_rfl) (fun _ _ _ h => h) (by rfl) (by assumption) ?_ ?_
                        rotate_left
                        · intro w' hSw; clear hSw; go_simp; (try with_reducible rfl)
                        (try simp only [Act.put, List.setIfInBounds_toArray, List.set_cons_zero, List.set_cons_succ])
                        refine tkW (v := ?_) 20 rfl (by kernel_rfl) (by kernel_rfl) (by kernel_rfl) (fun _ _ _ h => h) (by rfl) (by assumption) ?_ ?_
                        rotate_left
                        · intro w' hSw; clear hSw; go_simp; (try with_reducible rfl)
                        (try simp only [Act.put, List.setIfInBounds_toArray, List.set_cons_zero, List.set_cons_succ])
                        refine tkW (v := ?_) 21 rfl (by kernel_rfl) (by kernel_rfl) (by kernel_rfl) (fun _ _ _ h => h) (by rfl) (by assumption) ?_ ?_
                        rotate_left
                        · intro w' hSw; clear hSw; go_simp; (try with_reducible rfl)
                        (try simp only [Act.put, List.setIfInBounds_toArray, List.set_cons_zero, List.set_cons_succ])
                        refine tkW (v := ?_) 22 rfl (by kernel_rfl) (by kernel_rfl) (by kernel_rfl) (fun _ _ _ h => h) (by rfl) (by assumption) ?_ ?_
                        rotate_left
                        · intro w' hSw; clear hSw; go_simp; (try with_reducible rfl)
                        (try simp only [Act.put, List.setIfInBounds_toArray, List.set_cons_zero, List.set_cons_succ])
                        refine tkW (v := ?_) 23 rfl (by kernel_rfl) (by kernel_rfl) (by kernel_rfl) (fun _ _ _ h => h) (by rfl) (by assumption) ?_ ?_
                        rotate_left
                        · intro w' hSw; clear hSw; go_simp; (try with_reducible rfl)
                        (try simp only [Act.put, List.setIfInBounds_toArray, List.set_cons_zero, List.set_cons_succ])
                        refine tkW (v := ?_) 24 rfl (by kernel_rfl) (by kernel_rfl) (by kernel_rfl) (fun _ _ _ h => h) (by rfl) (by assumption) ?_ ?_
                        rotate_left
                        · intro w' hSw; clear hSw; go_simp; (try with_reducible rfl)
                        (try simp only [Act.put, List.setIfInBounds_toArray, List.set_cons_zero, List.set_cons_succ])
                        refine tkW (v := ?_) 25 rfl (by kernel_rfl) (by kernel_rfl) (by kernel_rfl) (fun _ _ _ h => h) (by rfl) (by assumption) ?_ ?_
                        rotate_left
                        · intro w' hSw; clear hSw; go_simp; (try with_reducible rfl)
                        (try simp only [Act.put, List.setIfInBounds_toArray, List.set_cons_zero, List.set_cons_succ])
                        refine tkW (v := ?_) 26 rfl (by kernel_rfl) (by kernel_rfl) (by kernel_rfl) (fun _ _ _ h => h) (by rfl) (by assumption) ?_ ?_
                        rotate_left
                        · intro w' hSw; (try dsimp only at hSw); have kc1 : w'.cell? ⟨w.heap.size, 1, none⟩ = some (.slice (some ⟨bp, op, none⟩) np cp) := (hSw.cell lW hgw).trans c1; have kcX : w'.cell? ⟨bp, op + X, none⟩ = some (.int .i64 zX) := (hSw.cell lX hgb).trans cX; have kcY : w'.cell? ⟨bp, op + Y, none⟩ = some (.int .i64 zY) := (hSw.cell lX hgb).trans cY; clear hSw; go_simp; (try with_reducible rfl)
                        (try simp only [Act.put, List.setIfInBounds_toArray, List.set_cons_zero, List.set_cons_succ])
                        refine tkW (v := ?_) 27 rfl (by kernel_rfl) (by kernel_rfl) (by kernel_rfl) (fun _ _ _ h => h) (by rfl) (by assumption) ?_ ?_
                        rotate_left
                        · intro w' hSw; clear hSw; go_simp; (try with_reducible rfl)
                        (try simp only [Act.put, List.setIfInBounds_toArray, List.set_cons_zero, List.set_cons_succ])
                        refine tkW (v := ?_) 28 rfl (by kernel_rfl) (by kernel_rfl) (by kernel_rfl) (fun _ _ _ h => h) (by rfl) (by assumption) ?_ ?_
                        rotate_left
                        · intro w' hSw; (try dsimp only at hSw); have kc1 : w'.cell? ⟨w.heap.size, 1, none⟩ = some (.slice (some ⟨bp, op, none⟩) np cp) := (hSw.cell lW hgw).trans c1; have kcX : w'.cell? ⟨bp, op + X, none⟩ = some (.int .i64 zX) := (hSw.cell lX hgb).trans cX; have kcY : w'.cell? ⟨bp, op + Y, none⟩ = some (.int .i64 zY) := (hSw.cell lX hgb).trans cY; clear hSw; go_simp; (try with_reducible rfl)
                        (try simp only [Act.put, List.setIfInBounds_toArray, List.set_cons_zero, List.set_cons_succ])
                        refine tkW (v := ?_) 29 rfl (by kernel_rfl) (by kernel_rfl) (by kernel_rfl) (fun _ _ _ h => h) (by rfl) (by assumption) ?_ ?_
                        rotate_left
                        · intro w' hSw; clear hSw; go_simp; (try with_reducible rfl)
                        (try simp only [Act.put, List.setIfInBounds_toArray, List.set_cons_zero, List.set_cons_succ])
                        refine tkW (v := ?_) 30 rfl (by kernel_rfl) (by kernel_rfl) (by kernel_rfl) (fun _ _ _ h => h) (by rfl) (by assumption) ?_ ?_
                        rotate_left
                        · intro w' hSw; clear hSw; go_simp; (try with_reducible rfl)
                        (try simp only [Act.put, List.setIfInBounds_toArray, List.set_cons_zero, List.set_cons_succ])
                        refine tkW (v := ?_) 31 rfl (by kernel_rfl) (by kernel_rfl) (by kernel_rfl) (fun _ _ _ h => h) (by rfl) (by assumption) ?_ ?_
                        rotate_left
                        · intro w' hSw; clear hSw; go_simp; (try with_reducible rfl)
                        (try simp only [Act.put, List.setIfInBounds_toArray, List.set_cons_zero, List.set_cons_succ])
                        refine tkW (v := ?_) 32 rfl (by kernel_rfl) (by kernel_rfl) (by kernel_rfl) (fun _ _ _ h => h) (by rfl) (by assumption) ?_ ?_
                        rotate_left
                        · intro w' hSw; clear hSw; go_simp; (try with_reducible rfl)
                        (try simp only [Act.put, List.setIfInBounds_toArray, List.set_cons_zero, List.set_cons_succ])
                        refine tkW (v := ?_) 33 rfl (by kernel_rfl) (by kernel_rfl) (by kernel_rfl) (fun _ _ _ h => h) (by rfl) (by assumption) ?_ ?_
                        rotate_left
                        · intro w' hSw; clear hSw; go_simp; (try with_reducible rfl)
                        (try simp only [Act.put, List.setIfInBounds_toArray, List.set_cons_zero, List.set_cons_succ])
                        refine tkW (v := ?_) 34 rfl (by kernel_rfl) (by kernel_rfl) (by kernel_rfl) (fun _ _ _ h => h) (by rfl) (by assumption) ?_ ?_
                        rotate_left
                        · intro w' hSw; clear hSw; go_simp; (try with_reducible rfl)
                        (try simp only [Act.put, List.setIfInBounds_toArray, List.set_cons_zero, List.set_cons_succ])
                        refine tkW (v := ?_) 35 rfl (by kernel_rfl) (by kernel_rfl) (by kernel_rfl) (fun _ _ _ h => h) (by rfl) (by assumption) ?_ ?_
                        rotate_left
                        · intro w' hSw; clear hSw; go_simp; (try with_reducible rfl)
                        (try simp only [Act.put, List.setIfInBounds_toArray, List.set_cons_zero, List.set_cons_succ])
                        refine tkW (v := ?_) 36 rfl (by kernel_rfl) (by kernel_rfl) (by kernel_rfl) (fun _ _ _ h => h) (by rfl) (by assumption) ?_ ?_
                        rotate_left
                        · intro w' hSw; clear hSw; go_simp; (try with_reducible rfl)
                        (try simp only [Act.put, List.setIfInBounds_toArray, List.set_cons_zero, List.set_cons_succ])
                        refine tkW (v := ?_) 37 rfl (by kernel_rfl) (by kernel_rfl) (by kernel_rfl) (fun _ _ _ h => h) (by rfl) (by assumption) ?_ ?_
                        rotate_left
                        · intro w' hSw; (try dsimp only at hSw); have kc1 : w'.cell? ⟨w.heap.size, 1, none⟩ = some (.slice (some ⟨bp, op, none⟩) np cp) := (hSw.cell lW hgw).trans c1; have kcX : w'.cell? ⟨bp, op + X, none⟩ = some (.int .i64 zX) := (hSw.cell lX hgb).trans cX; have kcY : w'.cell? ⟨bp, op + Y, none⟩ = some (.int .i64 zY) := (hSw.cell lX hgb).trans cY; clear hSw; go_simp; (try with_reducible rfl)
                        (try simp only [Act.put, List.setIfInBounds_toArray, List.set_cons_zero, List.set_cons_succ])
                        refine tkW (v := ?_) 38 rfl (by kernel_rfl) (by kernel_rfl) (by kernel_rfl) (fun _ _ _ h => h) (by rfl) (by assumption) ?_ ?_
                        rotate_left
                        · intro w' hSw; clear hSw; go_simp; (try with_reducible rfl)
                        (try simp only [Act.put, List.setIfInBounds_toArray, List.set_cons_zero, List.set_cons_succ])
                        refine tkC 39 rfl (by kernel_rfl) (by rfl) (fun K hK => ?_)
                        go_simp
                        refine hK.out _ _ ?_ (fun hHeld => ?_)
                        · exact hHeld.setCell_in _ (show gP = gP from rfl) _
                        clear hK K
                        (try simp only [Act.put, List.setIfInBounds_toArray, List.set_cons_zero, List.set_cons_succ])
                        refine tkW (v := ?_) 40 rfl (by kernel_rfl) (by kernel_rfl) (by kernel_rfl) (fun _ _ _ h => h) (by rfl) (by assumption) ?_ ?_
                        rotate_left
                        · intro w' hSw; clear hSw; go_simp; (try with_reducible rfl)
                        (try simp only [Act.put, List.setIfInBounds_toArray, List.set_cons_zero, List.set_cons_succ])
                        refine tkC 41 rfl (by kernel_rfl) (by rfl) (fun K hK => ?_)
                        go_simp
                        refine hK.out _ _ ?_ (fun hHeld => ?_)
                        · exact hHeld.setCell_in _ (show gP = gP from rfl) _
                        clear hK K
                        (try simp only [Act.put, List.setIfInBounds_toArray, List.set_cons_zero, List.set_cons_succ])
                        refine wpAnyH_done (by kernel_rfl) ?_ _
                        have HchN := Lib.hid (hch.out.trans hHeld)
                        clear hHeld uX uY vX vY cX cY
                        go_wp2
                        go_roundw
                        case rel => exact ⟨o + 1, by omega, by go_num, Lib.hid (by rw [Hs.out]; exact Hset.out), HchN.out⟩
                        case measure => simp [intOf]; omega
                      · obtain rfl : q2 = o := by omega
                        have hge : ∀ k, k = gP → w.heap.size ≤ k := by
                          rintro k rfl
                          have := Hbw5.out.size
                          omega
                        have Hbwr : Hid (Below w.heap.size w wr) := Lib.hid (Hbw6.out.trans (hch.out.below (by omega) hge))
                        have HRdL : Hid (Rd wr .i64 (some ⟨gP, 0, none⟩) np (L3 p nx A q1 (A + q1) i j q2)) := Lib.hid (Ow.rd (n := np) (c := cP) (Ow.of hown.out) (by omega))
                        have HLs := Lib.hid (HL.out i j Hij.out hiq hjq)
                        have HAL := Lib.hid (A64_L3 IP.out nx A q1 (A + q1) i j q2)
                        have HLn := Lib.hid (L3_len p nx A q1 (A + q1) i j q2)
                        clear hown hch HL
                        generalize L3 p nx A q1 (A + q1) i j q2 = LL at *
                        go_wp2_with fail
                        ((with_reducible refine (HF.out _ Hbwr.out).mono ?_); rintro e w7 ⟨vA, xsA, rfl, hrowA, hosA, hc7, hu7⟩)
                        obtain ⟨gA, cA, rfl, hgAB, hgA, hcA⟩ := own_cellsH hrowA (by omega)
                        have Hb7 : Hid (Below wr.heap.size wr w7) := Lib.hid (hc7.below (Nat.le_refl _) (fun k hk => by cases hk))
                        have z7 := Hb7.out.size
                        have hwr : w.heap.size < wr.heap.size := by omega
                        have c0 : w7.cell? ⟨w.heap.size, 0, none⟩ = some (.slice (some ⟨bs, os, none⟩) 3 cS) := (Hb7.out.cell (p := ⟨w.heap.size, 0, none⟩) hwr).trans c0
                        have Hbw7 : Hid (Below w.heap.size w w7) := Lib.hid (Hbwr.out.trans (Hb7.out.mono (by omega)))
                        have HG2 := Lib.hid (HF2.out w7 Hbw7.out LL gP cP HLn.out HAL.out (HRdL.out.kept Hb7.out) Hcap.out.1 Hcap.out.2)
                        obtain ⟨a2, c2, hz2, hr2, _⟩ := hosA.rd (i := 2) (n := q2) (by simp [vals]) (by simp only [vals, List.getElem?_map, List.getElem?_range (show 2 < 2 + 1 by omega), Option.map_some, Option.getD_some]; exact Hv2.out p) (by omega)
                        rw [show (vals s p x (2 + 1))[2]?.getD [] = val s p x 2 by simp [vals]] at hr2
                        have HcA := Lib.hid (hcA _ _ hz2)
                        have Hr2 := Lib.hid hr2
                        clear hrowA hosA hc7 hu7 hcA hz2 hr2 HF HF2
                        go_wp2_with fail
                        ((with_reducible refine (HG2.out).mono ?_); rintro e w8 ⟨vB, xsB, rfl, hrowB, hosB, hc8, hu8⟩)
                        obtain ⟨gB, cB, rfl, hgBB, hgB, hcB⟩ := own_cellsH hrowB (by omega)
                        have Hb8 : Hid (Below w7.heap.size w7 w8) := Lib.hid (hc8.below (Nat.le_refl _) (fun k hk => by cases hk))
                        have z8 := Hb8.out.size
                        obtain ⟨b2, d2, hzb, hrb, _⟩ := hosB.rd (i := 2) (n := q2) (by simp [vals]) (by simp only [vals, List.getElem?_map, List.getElem?_range (show 2 < 2 + 1 by omega), Option.map_some, Option.getD_some]; exact Hv2.out LL) (by omega)
                        rw [show (vals s LL x (2 + 1))[2]?.getD [] = val s LL x 2 by simp [vals], HLs.out] at hrb
                        have l2 : w8.cell? ⟨gA, 2, none⟩ = some (.slice a2 q2 c2) := (Hb8.out.cell (p := ⟨gA, 2, none⟩) (by show gA < _; omega)).trans HcA.out
                        have m2 : w8.cell? ⟨gB, 2, none⟩ = some (.slice b2 q2 d2) := hcB _ _ hzb
                        have HSm := Lib.hid (fun w' (hb : Below w8.heap.size w8 w') => lSame_any a2 b2 q2 c2 d2 (val s p x 2) w' ((Hr2.out.kept Hb8.out).kept hb) (hrb.kept hb))
                        have Hbw8 : Hid (Below w.heap.size w w8) := Lib.hid (Hbw7.out.trans (Hb8.out.mono (by omega)))
                        clear hrowB hosB hc8 hu8 hcB hzb hrb HG2 c0 c1
                        go_wp2
                        go_region_held3 (fun w' => w'.cell? ⟨gA, 2, none⟩ = some (.slice a2 q2 c2) ∧ w'.cell? ⟨gB, 2, none⟩ = some (.slice b2 q2 d2))
                          (first | assumption | go_keep)
                          (first
                            | (go_at_call 34; refine (HSm.out _ (by (repeat first | assumption | exact Below.refl _ _ | refine Below.drew ?_ | refine Below.drewN ?_ _ | refine Below.alloc ?_ (by (first | omega | (simp; done) | (simp; omega))) _ | refine Below.setCell ?_ (by (first | omega | (simp; done) | (simp; omega))) _ | refine Below.trans ?_ (Below.mono (by assumption) (by (first | omega | (simp; done) | (simp; omega))))))).mono ?_; rintro e w9 ⟨rfl, ⟨nd9, rfl⟩⟩))
                        all_goals go_wp2
                        all_goals go_ret
                        all_goals exact ⟨rfl, by have := Hbw8.out; (repeat first | assumption | exact Below.refl _ _ | refine Below.drew ?_ | refine Below.drewN ?_ _ | refine Below.alloc ?_ (by (first | omega | (simp; done) | (simp; omega))) _ | refine Below.setCell ?_ (by (first | omega | (simp; done) | (simp; omega))) _ | refine Below.trans ?_ (Below.mono (by assumption) (by (first | omega | (simp; done) | (simp; omega)))))⟩
              · have hat1 : atI < 0 := by omega
                clear hS hP hX hfew hr hs0 hs2 hsl hat0 gs2x
                obtain rfl := h3
                subst hx0
                have hm2i : ¬ ((szN s 1 : Int) < 2) := by omega
                clear hs1
                generalize szN s 0 = nx at *
                generalize szN s 1 = q1 at *
                go_enter Try.func7, Try.ntmps7
                go_wp2_with first
                  | ((with_reducible refine (HAw.out _).mono ?_); rintro e w1 ⟨rfl, hb1⟩; obtain ⟨hc1, hf1⟩ := bcell hb1; have hz1 := hb1.size; (try simp at hz1 hc1 hf1); have lt1 : w.heap.size < w1.heap.size := (by omega))
                  | ((with_reducible refine (HFew.out _ (by (repeat first | assumption | exact Below.refl _ _ | refine Below.drew ?_ | refine Below.drewN ?_ _ | refine Below.alloc ?_ (by (first | omega | (simp; done) | (simp; omega))) _ | refine Below.setCell ?_ (by (first | omega | (simp; done) | (simp; omega))) _ | refine Below.trans ?_ (Below.mono (by assumption) (by (first | omega | (simp; done) | (simp; omega))))))).mono ?_); rintro e w2 ⟨rfl, hb2⟩; obtain ⟨hc2, hf2⟩ := bcell hb2; have hz2 := hb2.size; (try simp at hz2 hc2 hf2); have lt2 : w.heap.size < w2.heap.size := (by omega))
                  | fail
                have d0 : w2.cell? ⟨w.heap.size, 0, none⟩ = some (.slice (some ⟨bs, os, none⟩) 3 cS) := by rw [hc2 _ _ (by omega), hc1 _ _ (by omega)]; go_simp
                have d1 : w2.cell? ⟨w.heap.size, 1, none⟩ = some (.slice ap np cp) := by rw [hc2 _ _ (by omega), hc1 _ _ (by omega)]; go_simp
                have dgs0 : w2.cell? ⟨bs, os, none⟩ = some (.int .i64 (nx : Int)) := by rw [hc2 _ _ (by omega), hc1 _ _ (by omega), World.cell?_alloc_past _ _ _ hbs]; exact gs0x
                have dgs1 : w2.cell? ⟨bs, os + 1, none⟩ = some (.int .i64 (q1 : Int)) := by rw [hc2 _ _ (by omega), hc1 _ _ (by omega), World.cell?_alloc_past _ _ _ hbs]; exact gs1x
                have Hb2 : Hid (Below w.heap.size w w2) := Lib.hid (by (repeat first | assumption | exact Below.refl _ _ | refine Below.drew ?_ | refine Below.drewN ?_ _ | refine Below.alloc ?_ (by (first | omega | (simp; done) | (simp; omega))) _ | refine Below.setCell ?_ (by (first | omega | (simp; done) | (simp; omega))) _ | refine Below.trans ?_ (Below.mono (by assumption) (by (first | omega | (simp; done) | (simp; omega))))))
                clear hb1 hb2 hc1 hc2 hf1 hf2
                ((with_reducible refine (HSh.out _ _ (World.cell?_alloc_at _ _ _ _ rfl)).mono ?_); rintro e w3 ⟨rfl, rfl⟩)
                have b3 : Hid (Below w.heap.size w (w2.alloc (.cells #[.slice ax nx cx] 62))) := Lib.hid (by have := Hb2.out; (repeat first | assumption | exact Below.refl _ _ | refine Below.drew ?_ | refine Below.drewN ?_ _ | refine Below.alloc ?_ (by (first | omega | (simp; done) | (simp; omega))) _ | refine Below.setCell ?_ (by (first | omega | (simp; done) | (simp; omega))) _ | refine Below.trans ?_ (Below.mono (by assumption) (by (first | omega | (simp; done) | (simp; omega))))))
                have lt3 : w.heap.size < w2.heap.size := by have := Hb2.out.size; omega
                have hbs2 : bs < w2.heap.size := by omega
                have e0 : (w2.alloc (.cells #[.slice ax nx cx] 62)).cell? ⟨w.heap.size, 0, none⟩ = some (.slice (some ⟨bs, os, none⟩) 3 cS) := by rw [World.cell?_alloc_past _ _ _ (by omega)]; exact d0
                have e1 : (w2.alloc (.cells #[.slice ax nx cx] 62)).cell? ⟨w.heap.size, 1, none⟩ = some (.slice ap np cp) := by rw [World.cell?_alloc_past _ _ _ (by omega)]; exact d1
                have egs0 : (w2.alloc (.cells #[.slice ax nx cx] 62)).cell? ⟨bs, os, none⟩ = some (.int .i64 (nx : Int)) := by rw [World.cell?_alloc_past _ _ _ (by omega)]; exact dgs0
                have egs1 : (w2.alloc (.cells #[.slice ax nx cx] 62)).cell? ⟨bs, os + 1, none⟩ = some (.int .i64 (q1 : Int)) := by rw [World.cell?_alloc_past _ _ _ (by omega)]; exact dgs1
                have hW3z : (w2.alloc (.cells #[.slice ax nx cx] 62)).heap.size = w2.heap.size + 1 := by simp
                generalize hW3 : (w2.alloc (.cells #[.slice ax nx cx] 62)) = W3 at *
                go_wp2_with fail
                (try rw [hW3])
                ((with_reducible refine (HR.out _ b3.out).mono ?_); rintro e w4 ⟨rfl, hb4⟩)
                have z4 := hb4.size
                have f0 : w4.cell? ⟨w.heap.size, 0, none⟩ = some (.slice (some ⟨bs, os, none⟩) 3 cS) := (hb4.cell (p := ⟨w.heap.size, 0, none⟩) (by first | (show w.heap.size < _; omega) | (show bs < _; omega))).trans e0
                have f1 : w4.cell? ⟨w.heap.size, 1, none⟩ = some (.slice ap np cp) := (hb4.cell (p := ⟨w.heap.size, 1, none⟩) (by first | (show w.heap.size < _; omega) | (show bs < _; omega))).trans e1
                have fgs0 : w4.cell? ⟨bs, os, none⟩ = some (.int .i64 (nx : Int)) := (hb4.cell (p := ⟨bs, os, none⟩) (by first | (show w.heap.size < _; omega) | (show bs < _; omega))).trans egs0
                have fgs1 : w4.cell? ⟨bs, os + 1, none⟩ = some (.int .i64 (q1 : Int)) := (hb4.cell (p := ⟨bs, os + 1, none⟩) (by first | (show w.heap.size < _; omega) | (show bs < _; omega))).trans egs1
                have Hbw4 : Hid (Below w.heap.size w w4) := Lib.hid (b3.out.trans (hb4.mono (by omega)))
                have l4 : w.heap.size < w4.heap.size := by omega
                clear hb4 HFew HSh HR HAw hW3 d0 d1 e0 e1 dgs0 egs0 dgs1 egs1
                go_wp2
                go_ret
                exact ⟨rfl, Hbw4.out⟩
            · have hm2i : (szN s 1 : Int) < 2 := by omega
              clear hS hP hX hfew hr hs0 hs2 hsl gs2x
              obtain rfl := h3
              subst hx0
              clear hs1
              generalize szN s 0 = nx at *
              generalize szN s 1 = q1 at *
              go_enter Try.func7, Try.ntmps7
              go_wp2_with first
                | ((with_reducible refine (HAw.out _).mono ?_); rintro e w1 ⟨rfl, hb1⟩; obtain ⟨hc1, hf1⟩ := bcell hb1; have hz1 := hb1.size; (try simp at hz1 hc1 hf1); have lt1 : w.heap.size < w1.heap.size := (by omega))
                | ((with_reducible refine (HFew.out _ (by (repeat first | assumption | exact Below.refl _ _ | refine Below.drew ?_ | refine Below.drewN ?_ _ | refine Below.alloc ?_ (by (first | omega | (simp; done) | (simp; omega))) _ | refine Below.setCell ?_ (by (first | omega | (simp; done) | (simp; omega))) _ | refine Below.trans ?_ (Below.mono (by assumption) (by (first | omega | (simp; done) | (simp; omega))))))).mono ?_); rintro e w2 ⟨rfl, hb2⟩; obtain ⟨hc2, hf2⟩ := bcell hb2; have hz2 := hb2.size; (try simp at hz2 hc2 hf2); have lt2 : w.heap.size < w2.heap.size := (by omega))
                | fail
              have d0 : w2.cell? ⟨w.heap.size, 0, none⟩ = some (.slice (some ⟨bs, os, none⟩) 3 cS) := by rw [hc2 _ _ (by omega), hc1 _ _ (by omega)]; go_simp
              have d1 : w2.cell? ⟨w.heap.size, 1, none⟩ = some (.slice ap np cp) := by rw [hc2 _ _ (by omega), hc1 _ _ (by omega)]; go_simp
              have dgs0 : w2.cell? ⟨bs, os, none⟩ = some (.int .i64 (nx : Int)) := by rw [hc2 _ _ (by omega), hc1 _ _ (by omega), World.cell?_alloc_past _ _ _ hbs]; exact gs0x
              have dgs1 : w2.cell? ⟨bs, os + 1, none⟩ = some (.int .i64 (q1 : Int)) := by rw [hc2 _ _ (by omega), hc1 _ _ (by omega), World.cell?_alloc_past _ _ _ hbs]; exact gs1x
              have Hb2 : Hid (Below w.heap.size w w2) := Lib.hid (by (repeat first | assumption | exact Below.refl _ _ | refine Below.drew ?_ | refine Below.drewN ?_ _ | refine Below.alloc ?_ (by (first | omega | (simp; done) | (simp; omega))) _ | refine Below.setCell ?_ (by (first | omega | (simp; done) | (simp; omega))) _ | refine Below.trans ?_ (Below.mono (by assumption) (by (first | omega | (simp; done) | (simp; omega))))))
              clear hb1 hb2 hc1 hc2 hf1 hf2
              ((with_reducible refine (HSh.out _ _ (World.cell?_alloc_at _ _ _ _ rfl)).mono ?_); rintro e w3 ⟨rfl, rfl⟩)
              have b3 : Hid (Below w.heap.size w (w2.alloc (.cells #[.slice ax nx cx] 62))) := Lib.hid (by have := Hb2.out; (repeat first | assumption | exact Below.refl _ _ | refine Below.drew ?_ | refine Below.drewN ?_ _ | refine Below.alloc ?_ (by (first | omega | (simp; done) | (simp; omega))) _ | refine Below.setCell ?_ (by (first | omega | (simp; done) | (simp; omega))) _ | refine Below.trans ?_ (Below.mono (by assumption) (by (first | omega | (simp; done) | (simp; omega))))))
              have lt3 : w.heap.size < w2.heap.size := by have := Hb2.out.size; omega
              have hbs2 : bs < w2.heap.size := by omega
              have e0 : (w2.alloc (.cells #[.slice ax nx cx] 62)).cell? ⟨w.heap.size, 0, none⟩ = some (.slice (some ⟨bs, os, none⟩) 3 cS) := by rw [World.cell?_alloc_past _ _ _ (by omega)]; exact d0
              have e1 : (w2.alloc (.cells #[.slice ax nx cx] 62)).cell? ⟨w.heap.size, 1, none⟩ = some (.slice ap np cp) := by rw [World.cell?_alloc_past _ _ _ (by omega)]; exact d1
              have egs0 : (w2.alloc (.cells #[.slice ax nx cx] 62)).cell? ⟨bs, os, none⟩ = some (.int .i64 (nx : Int)) := by rw [World.cell?_alloc_past _ _ _ (by omega)]; exact dgs0
              have egs1 : (w2.alloc (.cells #[.slice ax nx cx] 62)).cell? ⟨bs, os + 1, none⟩ = some (.int .i64 (q1 : Int)) := by rw [World.cell?_alloc_past _ _ _ (by omega)]; exact dgs1
              have hW3z : (w2.alloc (.cells #[.slice ax nx cx] 62)).heap.size = w2.heap.size + 1 := by simp
              generalize hW3 : (w2.alloc (.cells #[.slice ax nx cx] 62)) = W3 at *
              go_wp2_with fail
              (try rw [hW3])
              ((with_reducible refine (HR.out _ b3.out).mono ?_); rintro e w4 ⟨rfl, hb4⟩)
              have z4 := hb4.size
              have f0 : w4.cell? ⟨w.heap.size, 0, none⟩ = some (.slice (some ⟨bs, os, none⟩) 3 cS) := (hb4.cell (p := ⟨w.heap.size, 0, none⟩) (by first | (show w.heap.size < _; omega) | (show bs < _; omega))).trans e0
              have f1 : w4.cell? ⟨w.heap.size, 1, none⟩ = some (.slice ap np cp) := (hb4.cell (p := ⟨w.heap.size, 1, none⟩) (by first | (show w.heap.size < _; omega) | (show bs < _; omega))).trans e1
              have fgs0 : w4.cell? ⟨bs, os, none⟩ = some (.int .i64 (nx : Int)) := (hb4.cell (p := ⟨bs, os, none⟩) (by first | (show w.heap.size < _; omega) | (show bs < _; omega))).trans egs0
              have fgs1 : w4.cell? ⟨bs, os + 1, none⟩ = some (.int .i64 (q1 : Int)) := (hb4.cell (p := ⟨bs, os + 1, none⟩) (by first | (show w.heap.size < _; omega) | (show bs < _; omega))).trans egs1
              have Hbw4 : Hid (Below w.heap.size w w4) := Lib.hid (b3.out.trans (hb4.mono (by omega)))
              have l4 : w.heap.size < w4.heap.size := by omega
              clear hb4 HFew HSh HR HAw hW3 d0 d1 e0 e1 dgs0 egs0 dgs1 egs1
              go_wp2
              go_ret
              exact ⟨rfl, Hbw4.out⟩
          · have hne : ((nx : Int) != (szN s 0 : Int)) = true := by simpa using (by omega : ¬ (nx : Int) = szN s 0)
            have hne2 : ((nx : Int) == (szN s 0 : Int)) = false := by simpa using (by omega : ¬ (nx : Int) = szN s 0)
            clear hS hP hX hfew hr hs0 hs1 hs2 hsl gs1x gs2x
            subst h3
            generalize szN s 0 = q0 at *
            go_enter Try.func7, Try.ntmps7
            go_wp2_with first
              | ((with_reducible refine (HAw.out _).mono ?_); rintro e w1 ⟨rfl, hb1⟩; obtain ⟨hc1, hf1⟩ := bcell hb1; have hz1 := hb1.size; (try simp at hz1 hc1 hf1); have lt1 : w.heap.size < w1.heap.size := (by omega))
              | ((with_reducible refine (HFew.out _ (by (repeat first | assumption | exact Below.refl _ _ | refine Below.drew ?_ | refine Below.drewN ?_ _ | refine Below.alloc ?_ (by (first | omega | (simp; done) | (simp; omega))) _ | refine Below.setCell ?_ (by (first | omega | (simp; done) | (simp; omega))) _ | refine Below.trans ?_ (Below.mono (by assumption) (by (first | omega | (simp; done) | (simp; omega))))))).mono ?_); rintro e w2 ⟨rfl, hb2⟩; obtain ⟨hc2, hf2⟩ := bcell hb2; have hz2 := hb2.size; (try simp at hz2 hc2 hf2); have lt2 : w.heap.size < w2.heap.size := (by omega))
              | fail
            have d0 : w2.cell? ⟨w.heap.size, 0, none⟩ = some (.slice (some ⟨bs, os, none⟩) 3 cS) := by rw [hc2 _ _ (by omega), hc1 _ _ (by omega)]; go_simp
            have d1 : w2.cell? ⟨w.heap.size, 1, none⟩ = some (.slice ap np cp) := by rw [hc2 _ _ (by omega), hc1 _ _ (by omega)]; go_simp
            have dgs0 : w2.cell? ⟨bs, os, none⟩ = some (.int .i64 (q0 : Int)) := by rw [hc2 _ _ (by omega), hc1 _ _ (by omega), World.cell?_alloc_past _ _ _ hbs]; exact gs0x
            have Hb2 : Hid (Below w.heap.size w w2) := Lib.hid (by (repeat first | assumption | exact Below.refl _ _ | refine Below.drew ?_ | refine Below.drewN ?_ _ | refine Below.alloc ?_ (by (first | omega | (simp; done) | (simp; omega))) _ | refine Below.setCell ?_ (by (first | omega | (simp; done) | (simp; omega))) _ | refine Below.trans ?_ (Below.mono (by assumption) (by (first | omega | (simp; done) | (simp; omega))))))
            clear hb1 hb2 hc1 hc2 hf1 hf2
            ((with_reducible refine (HSh.out _ _ (World.cell?_alloc_at _ _ _ _ rfl)).mono ?_); rintro e w3 ⟨rfl, rfl⟩)
            have b3 : Hid (Below w.heap.size w (w2.alloc (.cells #[.slice ax nx cx] 62))) := Lib.hid (by have := Hb2.out; (repeat first | assumption | exact Below.refl _ _ | refine Below.drew ?_ | refine Below.drewN ?_ _ | refine Below.alloc ?_ (by (first | omega | (simp; done) | (simp; omega))) _ | refine Below.setCell ?_ (by (first | omega | (simp; done) | (simp; omega))) _ | refine Below.trans ?_ (Below.mono (by assumption) (by (first | omega | (simp; done) | (simp; omega))))))
            have lt3 : w.heap.size < w2.heap.size := by have := Hb2.out.size; omega
            have hbs2 : bs < w2.heap.size := by omega
            have e0 : (w2.alloc (.cells #[.slice ax nx cx] 62)).cell? ⟨w.heap.size, 0, none⟩ = some (.slice (some ⟨bs, os, none⟩) 3 cS) := by rw [World.cell?_alloc_past _ _ _ (by omega)]; exact d0
            have e1 : (w2.alloc (.cells #[.slice ax nx cx] 62)).cell? ⟨w.heap.size, 1, none⟩ = some (.slice ap np cp) := by rw [World.cell?_alloc_past _ _ _ (by omega)]; exact d1
            have egs0 : (w2.alloc (.cells #[.slice ax nx cx] 62)).cell? ⟨bs, os, none⟩ = some (.int .i64 (q0 : Int)) := by rw [World.cell?_alloc_past _ _ _ (by omega)]; exact dgs0
            have hW3z : (w2.alloc (.cells #[.slice ax nx cx] 62)).heap.size = w2.heap.size + 1 := by simp
            generalize hW3 : (w2.alloc (.cells #[.slice ax nx cx] 62)) = W3 at *
            go_wp2_with fail
            (try rw [hW3])
            ((with_reducible refine (HR.out _ b3.out).mono ?_); rintro e w4 ⟨rfl, hb4⟩)
            have z4 := hb4.size
            have f0 : w4.cell? ⟨w.heap.size, 0, none⟩ = some (.slice (some ⟨bs, os, none⟩) 3 cS) := (hb4.cell (p := ⟨w.heap.size, 0, none⟩) (by first | (show w.heap.size < _; omega) | (show bs < _; omega))).trans e0
            have f1 : w4.cell? ⟨w.heap.size, 1, none⟩ = some (.slice ap np cp) := (hb4.cell (p := ⟨w.heap.size, 1, none⟩) (by first | (show w.heap.size < _; omega) | (show bs < _; omega))).trans e1
            have fgs0 : w4.cell? ⟨bs, os, none⟩ = some (.int .i64 (q0 : Int)) := (hb4.cell (p := ⟨bs, os, none⟩) (by first | (show w.heap.size < _; omega) | (show bs < _; omega))).trans egs0
            have Hbw4 : Hid (Below w.heap.size w w4) := Lib.hid (b3.out.trans (hb4.mono (by omega)))
            have l4 : w.heap.size < w4.heap.size := by omega
            clear hb4 HFew HSh HR HAw hW3 d0 d1 e0 e1 dgs0 egs0
            go_wp2
            go_ret
            exact ⟨rfl, Hbw4.out⟩
        · have hne : ((ns : Int) != 3) = true := by simpa using (by omega : ¬ (ns : Int) = 3)
          have hne2 : ((ns : Int) == 3) = false := by simpa using (by omega : ¬ (ns : Int) = 3)
          clear hS hP hX hfew hr
          go_enter Try.func7, Try.ntmps7
          go_wp2_with first
            | ((with_reducible refine (HAw.out _).mono ?_); rintro e w1 ⟨rfl, hb1⟩; obtain ⟨hc1, hf1⟩ := bcell hb1; have hz1 := hb1.size; (try simp at hz1 hc1 hf1); have lt1 : w.heap.size < w1.heap.size := (by omega))
            | ((with_reducible refine (HFew.out _ (by (repeat first | assumption | exact Below.refl _ _ | refine Below.drew ?_ | refine Below.drewN ?_ _ | refine Below.alloc ?_ (by (first | omega | (simp; done) | (simp; omega))) _ | refine Below.setCell ?_ (by (first | omega | (simp; done) | (simp; omega))) _ | refine Below.trans ?_ (Below.mono (by assumption) (by (first | omega | (simp; done) | (simp; omega))))))).mono ?_); rintro e w2 ⟨rfl, hb2⟩; obtain ⟨hc2, hf2⟩ := bcell hb2; have hz2 := hb2.size; (try simp at hz2 hc2 hf2); have lt2 : w.heap.size < w2.heap.size := (by omega))
            | fail
          have d0 : w2.cell? ⟨w.heap.size, 0, none⟩ = some (.slice aS ns cS) := by rw [hc2 _ _ (by omega), hc1 _ _ (by omega)]; go_simp
          have d1 : w2.cell? ⟨w.heap.size, 1, none⟩ = some (.slice ap np cp) := by rw [hc2 _ _ (by omega), hc1 _ _ (by omega)]; go_simp
          have Hb2 : Hid (Below w.heap.size w w2) := Lib.hid (by (repeat first | assumption | exact Below.refl _ _ | refine Below.drew ?_ | refine Below.drewN ?_ _ | refine Below.alloc ?_ (by (first | omega | (simp; done) | (simp; omega))) _ | refine Below.setCell ?_ (by (first | omega | (simp; done) | (simp; omega))) _ | refine Below.trans ?_ (Below.mono (by assumption) (by (first | omega | (simp; done) | (simp; omega))))))
          clear hb1 hb2 hc1 hc2 hf1 hf2
          ((with_reducible refine (HSh.out _ _ (World.cell?_alloc_at _ _ _ _ rfl)).mono ?_); rintro e w3 ⟨rfl, rfl⟩)
          have b3 : Hid (Below w.heap.size w (w2.alloc (.cells #[.slice ax nx cx] 62))) := Lib.hid (by have := Hb2.out; (repeat first | assumption | exact Below.refl _ _ | refine Below.drew ?_ | refine Below.drewN ?_ _ | refine Below.alloc ?_ (by (first | omega | (simp; done) | (simp; omega))) _ | refine Below.setCell ?_ (by (first | omega | (simp; done) | (simp; omega))) _ | refine Below.trans ?_ (Below.mono (by assumption) (by (first | omega | (simp; done) | (simp; omega))))))
          have lt3 : w.heap.size < w2.heap.size := by have := Hb2.out.size; omega
          have e0 : (w2.alloc (.cells #[.slice ax nx cx] 62)).cell? ⟨w.heap.size, 0, none⟩ = some (.slice aS ns cS) := by rw [World.cell?_alloc_past _ _ _ (by omega)]; exact d0
          have e1 : (w2.alloc (.cells #[.slice ax nx cx] 62)).cell? ⟨w.heap.size, 1, none⟩ = some (.slice ap np cp) := by rw [World.cell?_alloc_past _ _ _ (by omega)]; exact d1
          have hW3z : (w2.alloc (.cells #[.slice ax nx cx] 62)).heap.size = w2.heap.size + 1 := by simp
          generalize hW3 : (w2.alloc (.cells #[.slice ax nx cx] 62)) = W3 at *
          go_wp2_with fail
          (try rw [hW3])
          ((with_reducible refine (HR.out _ b3.out).mono ?_); rintro e w4 ⟨rfl, hb4⟩)
          have z4 := hb4.size
          have f0 : w4.cell? ⟨w.heap.size, 0, none⟩ = some (.slice aS ns cS) := (hb4.cell (p := ⟨w.heap.size, 0, none⟩) (by first | (show w.heap.size < _; omega) | (show bs < _; omega))).trans e0
          have f1 : w4.cell? ⟨w.heap.size, 1, none⟩ = some (.slice ap np cp) := (hb4.cell (p := ⟨w.heap.size, 1, none⟩) (by first | (show w.heap.size < _; omega) | (show bs < _; omega))).trans e1
          have Hbw4 : Hid (Below w.heap.size w w4) := Lib.hid (b3.out.trans (hb4.mono (by omega)))
          have l4 : w.heap.size < w4.heap.size := by omega
          clear hb4 HFew HSh HR HAw hW3 d0 d1 e0 e1
          go_wp2
          go_ret
          exact ⟨rfl, Hbw4.out⟩
      · rw [show rightB s np = false by simpa using hr] at HR
        clear hS hP hX hfew hr
        go_enter Try.func7, Try.ntmps7
        go_wp2_with first
          | ((with_reducible refine (HAw.out _).mono ?_); rintro e w1 ⟨rfl, hb1⟩; obtain ⟨hc1, hf1⟩ := bcell hb1; have hz1 := hb1.size; (try simp at hz1 hc1 hf1); have lt1 : w.heap.size < w1.heap.size := (by omega))
          | ((with_reducible refine (HFew.out _ (by (repeat first | assumption | exact Below.refl _ _ | refine Below.drew ?_ | refine Below.drewN ?_ _ | refine Below.alloc ?_ (by (first | omega | (simp; done) | (simp; omega))) _ | refine Below.setCell ?_ (by (first | omega | (simp; done) | (simp; omega))) _ | refine Below.trans ?_ (Below.mono (by assumption) (by (first | omega | (simp; done) | (simp; omega))))))).mono ?_); rintro e w2 ⟨rfl, hb2⟩; obtain ⟨hc2, hf2⟩ := bcell hb2; have hz2 := hb2.size; (try simp at hz2 hc2 hf2); have lt2 : w.heap.size < w2.heap.size := (by omega))
          | fail
        have d0 : w2.cell? ⟨w.heap.size, 0, none⟩ = some (.slice aS ns cS) := by rw [hc2 _ _ (by omega), hc1 _ _ (by omega)]; go_simp
        have d1 : w2.cell? ⟨w.heap.size, 1, none⟩ = some (.slice ap np cp) := by rw [hc2 _ _ (by omega), hc1 _ _ (by omega)]; go_simp
        have Hb2 : Hid (Below w.heap.size w w2) := Lib.hid (by (repeat first | assumption | exact Below.refl _ _ | refine Below.drew ?_ | refine Below.drewN ?_ _ | refine Below.alloc ?_ (by (first | omega | (simp; done) | (simp; omega))) _ | refine Below.setCell ?_ (by (first | omega | (simp; done) | (simp; omega))) _ | refine Below.trans ?_ (Below.mono (by assumption) (by (first | omega | (simp; done) | (simp; omega))))))
        clear hb1 hb2 hc1 hc2 hf1 hf2
        ((with_reducible refine (HSh.out _ _ (World.cell?_alloc_at _ _ _ _ rfl)).mono ?_); rintro e w3 ⟨rfl, rfl⟩)
        have b3 : Hid (Below w.heap.size w (w2.alloc (.cells #[.slice ax nx cx] 62))) := Lib.hid (by have := Hb2.out; (repeat first | assumption | exact Below.refl _ _ | refine Below.drew ?_ | refine Below.drewN ?_ _ | refine Below.alloc ?_ (by (first | omega | (simp; done) | (simp; omega))) _ | refine Below.setCell ?_ (by (first | omega | (simp; done) | (simp; omega))) _ | refine Below.trans ?_ (Below.mono (by assumption) (by (first | omega | (simp; done) | (simp; omega))))))
        have lt3 : w.heap.size < w2.heap.size := by have := Hb2.out.size; omega
        have e0 : (w2.alloc (.cells #[.slice ax nx cx] 62)).cell? ⟨w.heap.size, 0, none⟩ = some (.slice aS ns cS) := by rw [World.cell?_alloc_past _ _ _ (by omega)]; exact d0
        have e1 : (w2.alloc (.cells #[.slice ax nx cx] 62)).cell? ⟨w.heap.size, 1, none⟩ = some (.slice ap np cp) := by rw [World.cell?_alloc_past _ _ _ (by omega)]; exact d1
        have hW3z : (w2.alloc (.cells #[.slice ax nx cx] 62)).heap.size = w2.heap.size + 1 := by simp
        generalize hW3 : (w2.alloc (.cells #[.slice ax nx cx] 62)) = W3 at *
        go_wp2_with fail
        (try rw [hW3])
        ((with_reducible refine (HR.out _ b3.out).mono ?_); rintro e w4 ⟨rfl, hb4⟩)
        have z4 := hb4.size
        have f0 : w4.cell? ⟨w.heap.size, 0, none⟩ = some (.slice aS ns cS) := (hb4.cell (p := ⟨w.heap.size, 0, none⟩) (by first | (show w.heap.size < _; omega) | (show bs < _; omega))).trans e0
        have f1 : w4.cell? ⟨w.heap.size, 1, none⟩ = some (.slice ap np cp) := (hb4.cell (p := ⟨w.heap.size, 1, none⟩) (by first | (show w.heap.size < _; omega) | (show bs < _; omega))).trans e1
        have Hbw4 : Hid (Below w.heap.size w w4) := Lib.hid (b3.out.trans (hb4.mono (by omega)))
        have l4 : w.heap.size < w4.heap.size := by omega
        clear hb4 HFew HSh HR HAw hW3 d0 d1 e0 e1
        go_wp2
        go_ret
        exact ⟨rfl, Hbw4.out⟩
    · rw [show decide (nx ≤ 100) = false by simpa using hsx] at HSh
      clear hS hP hX hfew HR
      go_enter Try.func7, Try.ntmps7
      go_wp2_with first
        | ((with_reducible refine (HAw.out _).mono ?_); rintro e w1 ⟨rfl, hb1⟩; obtain ⟨hc1, hf1⟩ := bcell hb1; have hz1 := hb1.size; (try simp at hz1 hc1 hf1); have lt1 : w.heap.size < w1.heap.size := (by omega))
        | ((with_reducible refine (HFew.out _ (by (repeat first | assumption | exact Below.refl _ _ | refine Below.drew ?_ | refine Below.drewN ?_ _ | refine Below.alloc ?_ (by (first | omega | (simp; done) | (simp; omega))) _ | refine Below.setCell ?_ (by (first | omega | (simp; done) | (simp; omega))) _ | refine Below.trans ?_ (Below.mono (by assumption) (by (first | omega | (simp; done) | (simp; omega))))))).mono ?_); rintro e w2 ⟨rfl, hb2⟩; obtain ⟨hc2, hf2⟩ := bcell hb2; have hz2 := hb2.size; (try simp at hz2 hc2 hf2); have lt2 : w.heap.size < w2.heap.size := (by omega))
        | fail
      have d0 : w2.cell? ⟨w.heap.size, 0, none⟩ = some (.slice aS ns cS) := by rw [hc2 _ _ (by omega), hc1 _ _ (by omega)]; go_simp
      have d1 : w2.cell? ⟨w.heap.size, 1, none⟩ = some (.slice ap np cp) := by rw [hc2 _ _ (by omega), hc1 _ _ (by omega)]; go_simp
      have Hb2 : Hid (Below w.heap.size w w2) := Lib.hid (by (repeat first | assumption | exact Below.refl _ _ | refine Below.drew ?_ | refine Below.drewN ?_ _ | refine Below.alloc ?_ (by (first | omega | (simp; done) | (simp; omega))) _ | refine Below.setCell ?_ (by (first | omega | (simp; done) | (simp; omega))) _ | refine Below.trans ?_ (Below.mono (by assumption) (by (first | omega | (simp; done) | (simp; omega))))))
      clear hb1 hb2 hc1 hc2 hf1 hf2
      ((with_reducible refine (HSh.out _ _ (World.cell?_alloc_at _ _ _ _ rfl)).mono ?_); rintro e w3 ⟨rfl, rfl⟩)
      go_wp2
      go_ret
      exact ⟨rfl, by have := Hb2.out; (repeat first | assumption | exact Below.refl _ _ | refine Below.drew ?_ | refine Below.drewN ?_ _ | refine Below.alloc ?_ (by (first | omega | (simp; done) | (simp; omega))) _ | refine Below.setCell ?_ (by (first | omega | (simp; done) | (simp; omega))) _ | refine Below.trans ?_ (Below.mono (by assumption) (by (first | omega | (simp; done) | (simp; omega)))))⟩
  · rw [show fewB s ns np = false by simpa using hfew] at HFew
    clear hS hP hX hfew
    go_enter Try.func7, Try.ntmps7
    go_wp2_with first
      | ((with_reducible refine (HAw.out _).mono ?_); rintro e w1 ⟨rfl, hb1⟩; obtain ⟨hc1, hf1⟩ := bcell hb1; have hz1 := hb1.size; (try simp at hz1 hc1 hf1); have lt1 : w.heap.size < w1.heap.size := (by omega))
      | ((with_reducible refine (HFew.out _ (by (repeat first | assumption | exact Below.refl _ _ | refine Below.drew ?_ | refine Below.drewN ?_ _ | refine Below.alloc ?_ (by (first | omega | (simp; done) | (simp; omega))) _ | refine Below.setCell ?_ (by (first | omega | (simp; done) | (simp; omega))) _ | refine Below.trans ?_ (Below.mono (by assumption) (by (first | omega | (simp; done) | (simp; omega))))))).mono ?_); rintro e w2 ⟨rfl, hb2⟩; obtain ⟨hc2, hf2⟩ := bcell hb2; have hz2 := hb2.size; (try simp at hz2 hc2 hf2); have lt2 : w.heap.size < w2.heap.size := (by omega))
      | fail
    go_ret
    exact ⟨rfl, by (repeat first | assumption | exact Below.refl _ _ | refine Below.drew ?_ | refine Below.drewN ?_ _ | refine Below.alloc ?_ (by (first | omega | (simp; done) | (simp; omega))) _ | refine Below.setCell ?_ (by (first | omega | (simp; done) | (simp; omega))) _ | refine Below.trans ?_ (Below.mono (by assumption) (by (first | omega | (simp; done) | (simp; omega)))))⟩
end Go.Proofs.Ytdamenbpgkhiiaa
