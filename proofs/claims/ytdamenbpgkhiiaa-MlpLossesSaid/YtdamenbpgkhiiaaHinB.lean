/-
  Layers vec and mlp: sums taken; the hinge's loss and slope.
-/
import Derived.Test.YtdamenbpgkhiiaaHinA
namespace Go.Proofs.Ytdamenbpgkhiiaa
open Go.RowKit
set_option linter.unusedVariables false
set_option linter.unusedSimpArgs false

theorem sumI_I128 {l : List Int} (h : A64 l) {n : Nat} (hn : n ≤ 65536) : I128 (sumI l n) := by
  have := sumI_bd h n
  unfold I128; omega

set_option maxHeartbeats 800000 in
set_option maxRecDepth 20000 in
theorem vtake_any (u : Option Nat) (n v : Int) (w : World) (h : Un w u n) (hv : I128 v) :
    Calls Try.prog 177 #[uV u, W v] w fun e w' => e = .returned (.int .i64 (clampI v)) ∧ Chg (UC u) w w' ∧ Un w' u (upC n (over v)) := by
  have HC := Lib.hid (fun w => Clamp_any v w hv)
  have HT := Lib.hid (fun w h => Take_u u n (clampI v) (over v) w h)
  have Hu := Lib.hid h
  clear h hv
  generalize uV u = p at *
  unfold W at *
  go_enter Try.func177, Try.ntmps177
  go_wp2_with first
    | ((with_reducible refine (HC.out _).mono ?_); rintro e w1 ⟨rfl, hb1⟩; have hbb : Hid (Below w.heap.size w w1) := Lib.hid (by (repeat first | assumption | exact Below.refl _ _ | refine Below.drew ?_ | refine Below.drewN ?_ _ | refine Below.alloc ?_ (by (first | omega | (simp; done) | (simp; omega))) _ | refine Below.setCell ?_ (by (first | omega | (simp; done) | (simp; omega))) _ | refine Below.trans ?_ (Below.mono (by assumption) (by (first | omega | (simp; done) | (simp; omega)))))))
    | ((with_reducible refine (HT.out _ (Hu.out.kept hbb.out)).mono ?_); rintro e w2 ⟨rfl, hc2, hu2⟩)
    | fail
  go_ret
  exact ⟨rfl, hc2.after_below hbb.out, hu2⟩

set_option maxHeartbeats 400000 in
theorem fits1_any (g : Nat) (a1 : Option Addr) (n1 c1 : Nat) (w : World) (h1 : w.cell? ⟨g, 0, none⟩ = some (.slice a1 n1 c1)) (l1 : n1 ≤ 65536) :
    Calls Try.prog 169 #[.slice (some ⟨g, 0, none⟩) 1 1] w fun e w' => e = .returned (.bool true) ∧ w = w' := by
  go_enter Try.func169, Try.ntmps169
  go_wp2
  refine wp_loop_rounds 2 ?_
  rw [rounds_succ]
  go_wp2
  rw [rounds_succ]
  go_wp2
  go_ret
  exact ⟨rfl, rfl⟩

set_option maxHeartbeats 800000 in
set_option maxRecDepth 20000 in
theorem vSum_any (u : Option Nat) (n : Int) (m ca : Nat) (aa : Option Addr) (l : List Int) (w : World) (h : Rd w .i64 aa m l) (hm : m ≤ 65536) (ia : A64 l) (hu : Un w u n) :
    Calls Try.prog 175 #[uV u, .slice aa m ca] w fun e w' => e = .returned (.tuple #[.int .i64 (clampI (sumI l m)), .int .i64 0]) ∧ Chg (UC u) w w' ∧ Un w' u (upC n (over (sumI l m))) := by
  have HF := Lib.hid (fun g w h1 => fits1_any g aa m ca w h1 hm)
  have HT := Lib.hid (fun w' (hb : Below w.heap.size w w') => total_any aa m ca l w' (h.kept hb) hm ia)
  have HK := Lib.hid (fun w h => vtake_any u n (sumI l m) w h (sumI_I128 ia hm))
  have Hu := Lib.hid hu
  clear h ia hu
  generalize uV u = p at *
  unfold W at *
  go_enter Try.func175, Try.ntmps175
  go_wp2_with fail
  ((with_reducible refine (HF.out _ _ (World.cell?_alloc_at _ _ _ _ rfl)).mono ?_); rintro e w1 ⟨rfl, rfl⟩)
  go_wp2_with fail
  ((with_reducible refine (HT.out _ (by (repeat first | assumption | exact Below.refl _ _ | refine Below.drew ?_ | refine Below.drewN ?_ _ | refine Below.alloc ?_ (by (first | omega | (simp; done) | (simp; omega))) _ | refine Below.setCell ?_ (by (first | omega | (simp; done) | (simp; omega))) _ | refine Below.trans ?_ (Below.mono (by assumption) (by (first | omega | (simp; done) | (simp; omega))))))).mono ?_); rintro e w2 ⟨rfl, hb2⟩)
  have hbb : Hid (Below w.heap.size w w2) := Lib.hid (by (repeat first | assumption | exact Below.refl _ _ | refine Below.drew ?_ | refine Below.drewN ?_ _ | refine Below.alloc ?_ (by (first | omega | (simp; done) | (simp; omega))) _ | refine Below.setCell ?_ (by (first | omega | (simp; done) | (simp; omega))) _ | refine Below.trans ?_ (Below.mono (by assumption) (by (first | omega | (simp; done) | (simp; omega))))))
  go_wp2_with fail
  ((with_reducible refine (HK.out _ (Hu.out.kept hbb.out)).mono ?_); rintro e w3 ⟨rfl, hc3, hu3⟩)
  go_wp2
  go_ret2
  exact ⟨rfl, hc3.after_below hbb.out, hu3⟩

theorem step_set {S L : List Int} {m k : Nat} (hS : S.length = m) (hL : L.length = m) (hk : k < m) : (S.take k ++ L.drop k).set k (S[k]?.getD 0) = S.take (k + 1) ++ L.drop (k + 1) := by
  have h1 : (S.take k).length = k := by rw [List.length_take]; omega
  rw [List.set_append_right _ _ (by omega), h1, Nat.sub_self, List.drop_eq_getElem_cons (by omega), List.set_cons_zero, List.take_succ_eq_append_getElem (by omega), List.append_assoc, List.getElem?_eq_getElem (by omega)]
  rfl
theorem step_at {S L : List Int} {m k : Nat} (hS : S.length = m) (hL : L.length = m) (hk : k < m) : (S.take k ++ L.drop k)[k]? = some (L[k]?.getD 0) := by
  have h1 : (S.take k).length = k := by rw [List.length_take]; omega
  rw [List.getElem?_append_right (by omega), h1, Nat.sub_self]
  simp [List.getElem?_eq_getElem (show k < L.length by omega)]

/-! ### the hinge -/
theorem sumI_relu (y t : List Int) (m : Nat) : ∀ k, k ≤ m → sumI (relu (lks y t m)) k = hgS y t k
  | 0, _ => rfl
  | k + 1, h => by
    have e : (relu (lks y t m))[k]?.getD 0 = relu1 (lackF (y[k]?.getD 0) (t[k]?.getD 0)) := by
      simp [relu, lks, List.getElem?_map, List.getElem?_range (show k < m by omega)]
    simp only [sumI, hgS]
    rw [sumI_relu y t m k (by omega), e]
theorem A64_lks (y t : List Int) (k : Nat) : A64 (lks y t k) := fun i => by
  unfold lks
  rw [List.getElem?_map]
  cases (List.range k)[i]? with
  | none => unfold I64; simp
  | some v => exact clampI_I64 _

set_option maxHeartbeats 3200000 in
set_option maxRecDepth 100000 in
theorem hfar_any (u : Option Nat) (n : Int) (m ca cb : Nat) (aa ab : Option Addr) (y t : List Int) (w : World)
    (ha : Rd w .i64 aa m y) (hb : Rd w .i64 ab m t) (hm : m ≤ 65536) (ia : A64 y) (ib : A64 t) (hu : Un w u n) (oa : 0 < m → ∀ z, aa = some z → ¬ UC u z.block) (ob : 0 < m → ∀ z, ab = some z → ¬ UC u z.block) :
    Calls Try.prog 172 #[.agg #[], uV u, .slice aa m ca, .slice ab m cb] w fun e w' => e = .returned (.int .i64 (clampI (hgS y t m))) ∧ Chg (UC u) w w' ∧ Un w' u (upC (cntH n y t m) (over (hgS y t m))) := by
  have HL := Lib.hid (fun w' (hb' : Below w.heap.size w w') => lacks_any u n m ca cb aa ab y t w' (ha.kept hb') (hb.kept hb') hm ia ib (hu.kept hb') oa ob)
  have hUlt := Lib.hid (fun k (hk : UC u k) => hu.lt hk)
  have HSu := Lib.hid (fun aa' ca' w' (h : Rd w' .i64 aa' m (relu (lks y t m))) hu' => vSum_any u (cntH n y t m) m ca' aa' (relu (lks y t m)) w' h hm (A64_relu (A64_lks y t m)) hu')
  rw [sumI_relu y t m m (Nat.le_refl _)] at HSu
  clear ha hb ia ib hu oa ob
  generalize huv : uV u = uv at *
  go_enter Try.func172, Try.ntmps172
  go_wp2_with fail
  ((with_reducible refine (HL.out _ (by (repeat first | assumption | exact Below.refl _ _ | refine Below.drew ?_ | refine Below.drewN ?_ _ | refine Below.alloc ?_ (by (first | omega | (simp; done) | (simp; omega))) _ | refine Below.setCell ?_ (by (first | omega | (simp; done) | (simp; omega))) _ | refine Below.trans ?_ (Below.mono (by assumption) (by (first | omega | (simp; done) | (simp; omega))))))).mono ?_); rintro e w2 ⟨v, rfl, ho2, hc2, hu2⟩)
  have HC2 : Hid (Chg (UC u) w w2) := Lib.hid ((Chg.of_below (below_alloc w (.cells #[] 168))).trans hc2)
  have hz2 := HC2.out.size
  unfold Ow at ho2
  rw [lks_len] at ho2
  obtain ⟨av, cv, rfl, hcv, hav⟩ := ownsRow_form ho2
  have Ho2 := Lib.hid (ownsRow_mono ho2 (B' := w.heap.size) (by simp))
  have Hu2 := Lib.hid hu2
  have hLl := lks_len y t m
  clear ho2 hc2 hu2 hav HL
  generalize lks y t m = L at *
  go_wp2
  go_loopw [20] (fun j wi => ∃ t : Nat, t ≤ m ∧ j = .int .i64 t ∧ Hid (wi.ownsRow w.heap.size 39 1 (.slice av m cv) m ((relu (L.take t) ++ L.drop t).map (Value.int .i64))) ∧ Hid (Chg (fun k => w.heap.size ≤ k) w2 wi)) (fun j _ => m - (intOf j).toNat)
  case atStart => exact ⟨0, Nat.zero_le _, rfl, Lib.hid (by simpa [relu] using Ho2.out), Chg.refl _ _⟩
  case round =>
    obtain ⟨k, hk, rfl, how, hcw⟩ := hrel
    by_cases hlt : k < m
    · obtain ⟨gv, rfl, hgB, hgl, hcv1, hfv⟩ := ownsRow_at how.out (i := k) hlt
      rw [List.getElem?_map, relu_at L k (by omega)] at hcv1
      simp only [Option.map_some] at hcv1
      have Hset := Lib.hid (ownsRow_set how.out hlt (.int .i64 (relu1 (L[k]?.getD 0))))
      rw [set_map, relu_step L k (by omega)] at Hset
      have hcs := Lib.hid (hcw.out.setCell_in ⟨gv, k, none⟩ (show w.heap.size ≤ gv from hgB) (.int .i64 (relu1 (L[k]?.getD 0))))
      have hk0 : (0 : Int) ≤ (k : Int) := by omega
      have hkm : (k : Int) < (m : Int) := by omega
      by_cases h9 : L[k]?.getD 0 < 0
      · have h10 : relu1 (L[k]?.getD 0) = 0 := by unfold relu1; rw [if_pos h9]
        rw [h10] at Hset hcs
        clear h10
        generalize L[k]?.getD 0 = z at *
        go_wp2
        go_roundw
        case rel => exact ⟨k + 1, by omega, by go_num, Hset.out, hcs.out⟩
        case measure => simp [intOf]; omega
      · have h10 : relu1 (L[k]?.getD 0) = L[k]?.getD 0 := by unfold relu1; rw [if_neg h9]
        rw [h10] at Hset hcs
        clear h10
        generalize L[k]?.getD 0 = z at *
        go_wp2
        go_roundw
        case rel => exact ⟨k + 1, by omega, by go_num, Hset.out, hcs.out⟩
        case measure => simp [intOf]; omega
    · obtain rfl : k = m := by omega
      have Hfin : Hid (relu (L.take k) ++ L.drop k = relu L) := Lib.hid (by rw [List.take_of_length_le (by omega), List.drop_eq_nil_of_le (by omega), List.append_nil])
      have HRd : Hid (Rd wr .i64 av k (relu L)) := Lib.hid (Ow.rd (n := k) (c := cv) (Ow.of (by have := how.out; rw [Hfin.out] at this; exact this)) (by omega))
      have Hu3 : Hid (Un wr u (cntH n y t k)) := Lib.hid (Hu2.out.chg hcw.out (fun i hi h => by have := hUlt.out i hi; omega))
      have HSv := Lib.hid (HSu.out av cv wr HRd.out Hu3.out)
      have HCw : Hid (Chg (UC u) w wr) := Lib.hid (HC2.out.drop hcw.out (fun i hi => Or.inr hi))
      clear HSu HRd Hu3
      go_wp2_with fail
      ((with_reducible refine (HSv.out).mono ?_); rintro e w5 ⟨rfl, hc5, hu5⟩)
      go_wp2
      go_ret
      exact ⟨rfl, HCw.out.trans hc5, hu5⟩

set_option maxHeartbeats 3200000 in
set_option maxRecDepth 100000 in
theorem hslope_any (u : Option Nat) (n : Int) (m ca cb : Nat) (aa ab : Option Addr) (y t : List Int) (w : World)
    (ha : Rd w .i64 aa m y) (hb : Rd w .i64 ab m t) (hm : m ≤ 65536) (ia : A64 y) (ib : A64 t) (hu : Un w u n) (oa : 0 < m → ∀ z, aa = some z → ¬ UC u z.block) (ob : 0 < m → ∀ z, ab = some z → ¬ UC u z.block) :
    Calls Try.prog 173 #[.agg #[], uV u, .slice aa m ca, .slice ab m cb] w fun e w' => ∃ v, e = .returned v ∧ Ow w' w.heap.size 39 .i64 v (slS y t m) ∧ Chg (UC u) w w' ∧ Un w' u (cntG (cntH n y t m) y t m) := by
  have HL := Lib.hid (fun w' (hb' : Below w.heap.size w w') => lacks_any u n m ca cb aa ab y t w' (ha.kept hb') (hb.kept hb') hm ia ib (hu.kept hb') oa ob)
  have hUlt := Lib.hid (fun k (hk : UC u k) => hu.lt hk)
  have HB := Lib.hid hb
  have OB := Lib.hid ob
  have IB := Lib.hid ib
  clear ha hb ia ib hu oa ob
  generalize huv : uV u = uv at *
  have Huv := Lib.hid huv
  clear huv
  go_enter Try.func173, Try.ntmps173
  go_wp2_with fail
  ((with_reducible refine (HL.out _ (by (repeat first | assumption | exact Below.refl _ _ | refine Below.drew ?_ | refine Below.drewN ?_ _ | refine Below.alloc ?_ (by (first | omega | (simp; done) | (simp; omega))) _ | refine Below.setCell ?_ (by (first | omega | (simp; done) | (simp; omega))) _ | refine Below.trans ?_ (Below.mono (by assumption) (by (first | omega | (simp; done) | (simp; omega))))))).mono ?_); rintro e w2 ⟨v, rfl, ho2, hc2, hu2⟩)
  have HC2 : Hid (Chg (UC u) w w2) := Lib.hid ((Chg.of_below (below_alloc w (.cells #[] 168))).trans hc2)
  have hz2 := HC2.out.size
  unfold Ow at ho2
  rw [lks_len] at ho2
  obtain ⟨av, cv, rfl, hcv, hav⟩ := ownsRow_form ho2
  have Ho2 := Lib.hid (ownsRow_mono ho2 (B' := w.heap.size) (by simp))
  have Hu2 := Lib.hid hu2
  have hLl := lks_len y t m
  have hSl : (slS y t m).length = m := by simp [slS]
  have HLa := Lib.hid (fun i (h : i < m) => lks_at y t h)
  have HSa : Hid (∀ i, i < m → (slS y t m)[i]?.getD 0 = slF (y[i]?.getD 0) (t[i]?.getD 0)) := Lib.hid (fun i h => by simp [slS, List.getElem?_map, List.getElem?_range h])
  clear ho2 hc2 hu2 hav HL
  generalize lks y t m = L at *
  generalize hc0 : cntH n y t m = c0 at *
  have Hc0 := Lib.hid hc0
  clear hc0
  have Hlen := Lib.hid hLl; have Hsen := Lib.hid hSl
  clear hLl hSl
  go_wp2
  go_loopw [21] (fun j wi => ∃ k : Nat, k ≤ m ∧ j = .int .i64 k ∧ Hid (wi.ownsRow w.heap.size 39 1 (.slice av m cv) m (((slS y t m).take k ++ L.drop k).map (Value.int .i64))) ∧ Hid (Chg (fun q => UC u q ∨ w.heap.size ≤ q) w2 wi) ∧ Hid (Un wi u (cntG c0 y t k))) (fun j _ => m - (intOf j).toNat)
  case atStart => exact ⟨0, Nat.zero_le _, rfl, Lib.hid (by simpa using Ho2.out), Chg.refl _ _, Hu2.out⟩
  case round =>
    obtain ⟨k, hk, rfl, how, hcw, hun⟩ := hrel
    have hzr := hcw.out.size
    by_cases hlt : k < m
    · obtain ⟨gv, rfl, hgB, hgl, hcv1, hfv⟩ := ownsRow_at how.out (i := k) hlt
      rw [List.getElem?_map, step_at Hsen.out Hlen.out hlt] at hcv1
      simp only [Option.map_some] at hcv1
      have Hset := Lib.hid (ownsRow_set how.out hlt (.int .i64 ((slS y t m)[k]?.getD 0)))
      rw [set_map, step_set Hsen.out Hlen.out hlt, HSa.out k hlt] at Hset
      have HsetF : ∀ w', Chg (UC u) wr w' → Hid (w'.ownsRow w.heap.size 39 1 (.slice (some ⟨gv, 0, none⟩) m cv) m (((slS y t m).take k ++ L.drop k).map (Value.int .i64))) := fun w' hc => Lib.hid (ownsRow_chg how.out hc (fun q hq => hUlt.out q hq))
      replace HsetF := Lib.hid HsetF
      have hlk := HLa.out k hlt
      rw [hlk] at hcv1
      obtain ⟨bb, obb, rfl, hbb, hcb⟩ := HB.out.at hlt
      have eb : wr.cell? ⟨bb, obb + k, none⟩ = some (.int .i64 (t[k]?.getD 0)) := (hcw.out.cell (k := bb) (by omega) (fun h => by rcases h with h | h; exact OB.out (by omega) _ rfl h; omega)).trans ((HC2.out.cell hbb (OB.out (by omega) _ rfl)).trans hcb)
      have Hcd : Hid (cntG c0 y t (k + 1) = slC (cntG c0 y t k) (y[k]?.getD 0) (t[k]?.getD 0)) := Lib.hid rfl
      have HN := Lib.hid (fun w => fixNeg_any (t[k]?.getD 0) w (IB.out k))
      have HT := Lib.hid (fun w h => Take_u u (cntG c0 y t k) (clampI (-(t[k]?.getD 0))) (over (-(t[k]?.getD 0))) w h)
      rw [Huv.out] at HT
      have hk0 : (0 : Int) ≤ (k : Int) := by omega
      have hkm : (k : Int) < (m : Int) := by omega
      unfold Held at HN
      unfold slF at Hset
      unfold slC at Hcd
      rw [Int.zero_sub] at Hset Hcd
      have HSF := Lib.hid (HSa.out k hlt)
      unfold slF at HSF
      rw [Int.zero_sub] at HSF
      clear hcb hlk
      by_cases hpos : 0 < lackF (y[k]?.getD 0) (t[k]?.getD 0)
      · have hposd : decide (lackF (y[k]?.getD 0) (t[k]?.getD 0) > 0) = true := by simpa using hpos
        rw [if_pos hpos] at Hset Hcd HSF
        generalize lackF (y[k]?.getD 0) (t[k]?.getD 0) = d at *
        generalize clampI (-(t[k]?.getD 0)) = ng at *
        generalize over (-(t[k]?.getD 0)) = og at *
        generalize t[k]?.getD 0 = tb at *
        go_wp2_with fail
        (with_reducible refine (HN.out _).mono ?_)
        rintro e w5 ⟨rfl, hb5⟩
        go_wp2_with fail
        (with_reducible refine (HT.out _ (hun.out.kept hb5)).mono ?_)
        rintro e w6 ⟨rfl, hc6, hu6⟩
        have HC6 : Hid (Chg (UC u) wr w6) := Lib.hid ((Chg.of_below hb5).trans hc6)
        have Hun6 := Lib.hid hu6
        have how6 := (HsetF.out w6 HC6.out).out
        obtain ⟨_, ee, _, hgl6, hcv6, hfv6⟩ := ownsRow_at how6 (i := k) hlt
        cases ee
        rw [List.getElem?_map, step_at Hsen.out Hlen.out hlt] at hcv6
        simp only [Option.map_some] at hcv6
        have Hset6 := Lib.hid (ownsRow_set how6 hlt (.int .i64 ((slS y t m)[k]?.getD 0)))
        rw [set_map, step_set Hsen.out Hlen.out hlt, HSF.out] at Hset6
        have HCW : Hid (Chg (fun q => UC u q ∨ w.heap.size ≤ q) w2 w6) := Lib.hid (hcw.out.trans (HC6.out.mono (fun q hq => Or.inl hq)))
        have hcs := Lib.hid (HCW.out.setCell_in ⟨gv, k, none⟩ (Or.inr (show w.heap.size ≤ gv from hgB)) (.int .i64 ng))
        have HUS : Hid (Un (w6.setCell ⟨gv, k, none⟩ (.int .i64 ng)) u (upC (cntG c0 y t k) og)) := Lib.hid (Hun6.out.chg (S := fun q => w.heap.size ≤ q) ((Chg.refl _ _).setCell_in ⟨gv, k, none⟩ (show w.heap.size ≤ gv from hgB) _) (fun q hq h => by have := hUlt.out q hq; omega))
        clear hb5 hc6 hu6 how6 Hset HN HT eb hcv1 hfv
        generalize L[k]?.getD 0 = lk at *
        go_wp2
        go_roundw
        case rel => exact ⟨k + 1, by omega, by go_num, Hset6.out, hcs.out, Lib.hid (by rw [Hcd.out]; exact HUS.out)⟩
        case measure => simp [intOf]; omega
      · have hposd : decide (lackF (y[k]?.getD 0) (t[k]?.getD 0) > 0) = false := by simpa using hpos
        rw [if_neg hpos] at Hset Hcd
        have hcs := Lib.hid (hcw.out.setCell_in ⟨gv, k, none⟩ (Or.inr (show w.heap.size ≤ gv from hgB)) (.int .i64 0))
        have HUS : Hid (Un (wr.setCell ⟨gv, k, none⟩ (.int .i64 0)) u (cntG c0 y t k)) := Lib.hid (hun.out.chg (S := fun q => w.heap.size ≤ q) ((Chg.refl _ _).setCell_in ⟨gv, k, none⟩ (show w.heap.size ≤ gv from hgB) _) (fun q hq h => by have := hUlt.out q hq; omega))
        rw [HSF.out, if_neg hpos] at *
        clear HSF HN HT eb
        generalize lackF (y[k]?.getD 0) (t[k]?.getD 0) = d at *
        go_wp2
        go_roundw
        case rel => exact ⟨k + 1, by omega, by go_num, Hset.out, hcs.out, Lib.hid (by rw [Hcd.out]; exact HUS.out)⟩
        case measure => simp [intOf]; omega
    · obtain rfl : k = m := by omega
      have Hfin : Hid ((slS y t k).take k ++ L.drop k = slS y t k) := Lib.hid (by rw [List.take_of_length_le (by rw [Hsen.out]; omega), List.drop_eq_nil_of_le (by rw [Hlen.out]; omega), List.append_nil])
      have HCw : Hid (Chg (UC u) w wr) := Lib.hid (HC2.out.drop hcw.out (fun i hi => hi))
      go_wp2
      go_ret
      exact ⟨_, rfl, Ow.of (by have := how.out; rw [Hfin.out] at this; exact this), HCw.out, by rw [Hc0.out]; exact hun.out⟩
end Go.Proofs.Ytdamenbpgkhiiaa
