/-
  Layer mlp: what a net comes to, and its gradient, where sizes and lists go together.
-/
import Derived.Test.YtkmfdggodinjaaaMlpI
namespace Go.Proofs.Ytkmfdggodinjaaa
open Go.RowKit
set_option linter.unusedVariables false
set_option linter.unusedSimpArgs false

theorem lays_of {w : World} {B b o m : Nat} {E : TypeId} {s : List Int} {v : Value} {xs : List Value} (h : w.ownsRow B E 4 v m xs) (hx : LayX b o s xs m) (hm : 0 < m) :
    ∃ g c, v = .slice (some ⟨g, 0, none⟩) m c ∧ B ≤ g ∧ g < w.heap.size ∧ LaysAt w g b o s m := by
  rcases h.2 with ⟨e, e2⟩ | ⟨g, cap, cur, rfl, hb, hg, hc, hmx, hsz, ht⟩
  · omega
  · refine ⟨g, cap, rfl, hb, lt_of_block hg, fun i hi t ht' => ?_⟩
    rw [← hx.2 i hi t ht']
    have hlt : i * 4 + t < xs.length := by rw [hx.1]; omega
    have := World.ownsRow.cells h (g := g) rfl (i * 4 + t) (xs[i * 4 + t]) (List.getElem?_eq_getElem hlt)
    rw [List.getElem?_eq_getElem hlt]
    rw [← this]
    simp only [Addr.add, Nat.zero_add]
    split <;> simp_all

/-- Sizes, parameters, an input that go together. -/
structure NetOk (s p x : List Int) (m : Nat) : Prop where
  hs : okS s
  hm : s.length = m + 1
  hp : p.length = cntN s
  hx : x.length = szN s 0
  ip : A64 p
  ix : A64 x
theorem NetOk.m_pos {s p x : List Int} {m : Nat} (h : NetOk s p x m) : 1 ≤ m ∧ m ≤ 5 := by have := h.hs.1; have := h.hs.2.1; have := h.hm; omega
theorem NetOk.p_pos {s p x : List Int} {m : Nat} (h : NetOk s p x m) : 0 < p.length := by
  have h0 := h.m_pos
  have h1 := h.hs.szv (i := 0 + 1) (by have := h.hm; omega)
  have := fst_mono s (i := 0 + 1) (j := m) (by omega)
  rw [fst_succ] at this
  have h3 : cntN s = fst s m := by unfold cntN; rw [h.hm, Nat.add_sub_cancel]
  rw [h.hp, h3]
  omega
theorem cnt_bd {s : List Int} (h : okS s) : cntN s ≤ 30000 := by
  have h6 := h.2.1
  have h2 := h.1
  have := fst_bd (s := s) (m := s.length) (fun j hj => (h.2.2 j hj).2) (s.length - 1) (by omega)
  unfold cntN
  have : (s.length - 1) * 4160 ≤ 5 * 4160 := Nat.mul_le_mul_right _ (by omega)
  omega

set_option maxHeartbeats 3200000 in
set_option maxRecDepth 100000 in
theorem Forward_ok (u : Option Nat) (n : Int) (aS : Option Addr) (ns cS : Nat) (s : List Int) (ap : Option Addr) (np cp : Nat) (p : List Int) (ax : Option Addr) (nx cx : Nat) (x : List Int) (m : Nat) (w : World) (hn : NetOk s p x m)
    (hs : Rd w .i64 aS ns s) (hp : Rd w .i64 ap np p) (hx : Rd w .i64 ax nx x) (hcp : np ≤ cp) (hcm : cp ≤ 9223372036854775807) (hnone : ax = none → cx = 0)
    (op : ∀ y, ap = some y → ¬ UC u y.block) (hu : Un w u n) :
    Calls Try.prog 19 #[uV u, .slice aS ns cS, .slice ap np cp, .slice ax nx cx] w fun e w' => ∃ v xs, e = .returned (.tuple #[v, .int .i64 0]) ∧ w'.ownsRow w.heap.size 22 1 v (m + 1) xs ∧ OwS w' w.heap.size 23 .i64 xs (vals s p x (m + 1)) ∧ Chg (UC u) w w' ∧ Un w' u (cntV n s p x m) := by
  obtain ⟨b, o, rfl, hbp, _⟩ := hp.2.2 (by rw [← hp.1]; exact hn.p_pos)
  have hm := hn.m_pos
  have HSh := Lib.hid (shaped_any aS ns cS s (some ⟨b, o, none⟩) np cp w hs (by have := hp.2.1; omega))
  have he : shp s np = 0 := by unfold shp; rw [if_pos hn.hs, if_pos (by rw [← hp.1]; exact hn.hp)]
  rw [he] at HSh
  have hns : ns = m + 1 := by rw [← hs.1]; exact hn.hm
  obtain ⟨bs, os, rfl, hbs, hcs⟩ := hs.at (i := 0) (by omega)
  have hs0 := hn.hs.szv (i := 0) (by rw [hn.hm]; omega)
  rw [hs0.1, Nat.add_zero] at hcs
  have hnx : nx = szN s 0 := by rw [← hx.1]; exact hn.hx
  have HLy := Lib.hid (layers_any (some ⟨bs, os, none⟩) ns cS s b o np cp w hs hn.hs (by rw [← hp.1]; exact hn.hp.symm) hcp hcm)
  have HV := Lib.hid (fun g cl w' (hb' : Below w.heap.size w w') (hg : g < w'.heap.size) (hL : LaysAt w' g b o s m) (hug : ¬ UC u g) => values_any u n g cl m b o np s p ax nx cx x w' hg hL hn.hs hn.hm (hp.kept hb') (by rw [← hp.1]; exact hn.hp.symm) (hx.kept hb') hnx hnone hug (op _ rfl) hn.ip hn.ix (hu.kept hb'))
  have hUlt := Lib.hid (fun k (hk : UC u k) => hu.lt hk)
  subst hns
  rw [Nat.add_sub_cancel] at HLy
  subst hnx
  have Hm := Lib.hid hm
  clear hn hs hp hx op hu hs0 he hbs hbp
  generalize szN s 0 = q0 at *
  generalize uV u = uv at *
  go_enter Try.func19, Try.ntmps19
  go_wp2_with first
    | ((with_reducible refine (HSh.out).mono ?_); rintro e w1 ⟨rfl, rfl⟩)
    | fail
  ((with_reducible refine (HLy.out).mono ?_); rintro e w1 ⟨v1, xs1, rfl, hrow1, hx1, hb1⟩)
  obtain ⟨gL, cL, rfl, hgB, hgl, hLs⟩ := lays_of hrow1 hx1 (by have := Hm.out; omega)
  have HVa := Lib.hid (HV.out gL cL w1 hb1 hgl hLs (fun h => by have := hUlt.out _ h; omega))
  have Hb1 := Lib.hid hb1
  clear hrow1 hx1 hb1 hLs
  go_wp2_with fail
  ((with_reducible refine (HVa.out).mono ?_); rintro e w2 ⟨v2, xs2, rfl, hrow2, hos2, hc2, hu2⟩)
  go_wp2
  go_ret2
  exact ⟨v2, xs2, rfl, ownsRow_mono hrow2 Hb1.out.size, hos2.mono Hb1.out.size, (Chg.of_below Hb1.out).trans hc2, hu2⟩
end Go.Proofs.Ytkmfdggodinjaaa
