/-
  The walk of regattalaw07.MlpTurned.
-/
import Derived.Test.YthingodgjeicpaaTurnA
namespace Go.Proofs.Ythingodgjeicpaa
open Go.RowKit
set_option linter.unusedVariables false
set_option linter.unusedSimpArgs false

/-- A slice of examples that came in, as these walks take it. -/
structure InExs (w : World) (a : Option Addr) (K c : Nat) (L : List ExD) : Prop where
  len : L.length = K
  nc : K ≤ c
  cm : c ≤ 9223372036854775807
  at' : 0 < K → ∃ b o, a = some ⟨b, o, none⟩ ∧ b < w.heap.size ∧ ExsAt w b o L
  r : ExR w L

/-- The cells of examples. -/
def exCells : List ExD → List Value
  | [] => []
  | e :: L => .slice e.ax e.nx e.cx :: .slice e.aT e.nt e.ct :: exCells L
theorem exCells_app : ∀ (A B : List ExD), exCells (A ++ B) = exCells A ++ exCells B
  | [], _ => rfl
  | e :: A, B => by simp [exCells, exCells_app A B]
theorem exCells_len : ∀ L : List ExD, (exCells L).length = L.length * 2
  | [] => rfl
  | e :: L => by simp [exCells, exCells_len L]; omega
theorem exCells_one : ∀ (L : List ExD) (u : Value), u ∈ exCells L → u.oneCell' = true
  | [], u, h => by cases h
  | e :: L, u, h => by
    simp only [exCells, List.mem_cons] at h
    rcases h with rfl | rfl | h
    · rfl
    · rfl
    · exact exCells_one L u h
theorem exCells_at : ∀ (L : List ExD) (j : Nat) (u : Value), (exCells L)[j]? = some u → ∃ i, i < L.length ∧ (j = i * 2 ∧ u = .slice (exAt L i).ax (exAt L i).nx (exAt L i).cx ∨ j = i * 2 + 1 ∧ u = .slice (exAt L i).aT (exAt L i).nt (exAt L i).ct)
  | [], j, u, h => by simp [exCells] at h
  | e :: L, 0, u, h => by simp [exCells] at h; subst h; exact ⟨0, by simp, .inl ⟨rfl, rfl⟩⟩
  | e :: L, 1, u, h => by simp [exCells] at h; subst h; exact ⟨0, by simp, .inr ⟨rfl, rfl⟩⟩
  | e :: L, j + 2, u, h => by
    have h' : (exCells L)[j]? = some u := by simpa [exCells] using h
    obtain ⟨i, hi, hh⟩ := exCells_at L j u h'
    refine ⟨i + 1, by simpa using hi, ?_⟩
    have e1 : exAt (e :: L) (i + 1) = exAt L i := by simp [exAt]
    rw [e1]
    rcases hh with ⟨h1, h2⟩ | ⟨h1, h2⟩
    · exact .inl ⟨by omega, h2⟩
    · exact .inr ⟨by omega, h2⟩
theorem exCells_get : ∀ (L : List ExD) (i : Nat), i < L.length → (exCells L)[i * 2]? = some (.slice (exAt L i).ax (exAt L i).nx (exAt L i).cx) ∧ (exCells L)[i * 2 + 1]? = some (.slice (exAt L i).aT (exAt L i).nt (exAt L i).ct)
  | [], i, h => by simp at h
  | e :: L, 0, h => by simp [exCells, exAt]
  | e :: L, i + 1, h => by
    have := exCells_get L i (by simpa using h)
    have e1 : exAt (e :: L) (i + 1) = exAt L i := by simp [exAt]
    rw [e1, show (i + 1) * 2 = i * 2 + 2 by omega]
    simpa [exCells] using this
theorem news_of {w : World} {b o K k m : Nat} {L : List ExD} (h : ExsAt w b o L) (A : List ExD) (hA : ∀ i, i < A.length → exAt A i = exAt L (k + i)) (hl : k + A.length ≤ L.length) : ∀ j u, (exCells A)[j]? = some u → w.cell? ⟨b, o + k * 2 + j, none⟩ = some u := by
  intro j u hj
  obtain ⟨i, hi, hh⟩ := exCells_at A j u hj
  have := h (k + i) (by omega)
  rw [← hA i hi] at this
  rcases hh with ⟨rfl, rfl⟩ | ⟨rfl, rfl⟩
  · rw [show o + k * 2 + i * 2 = o + (k + i) * 2 by omega]; exact this.1
  · rw [show o + k * 2 + (i * 2 + 1) = o + (k + i) * 2 + 1 by omega]; exact this.2
theorem exAt_drop (L : List ExD) (k i : Nat) : exAt (L.drop k) i = exAt L (k + i) := by unfold exAt; rw [List.getElem?_drop]
theorem exAt_take (L : List ExD) (k i : Nat) (h : i < k) : exAt (L.take k) i = exAt L (0 + i) := by unfold exAt; rw [List.getElem?_take_of_lt h, Nat.zero_add]
theorem exsAt_own {w : World} {B g n c : Nat} {L : List ExD} (h : w.ownsRow B 45 2 (.slice (some ⟨g, 0, none⟩) n c) n (exCells L)) : ExsAt w g 0 L := by
  intro i hi
  obtain ⟨h1, h2⟩ := exCells_get L i hi
  have k1 := World.ownsRow.cells h (g := g) rfl _ _ h1
  have k2 := World.ownsRow.cells h (g := g) rfl _ _ h2
  simp only [Addr.add, Nat.zero_add] at k1 k2 ⊢
  refine ⟨?_, ?_⟩
  · split at k1 <;> simp_all
  · split at k2 <;> simp_all

/-- 'v = append(v, src...)' of elements of any size. -/
theorem op_appM {P : Program} {o : Oper} {a : Act} {K : Act → World → Prop} {Q : Exit → Act → World → Prop} {w : World} {T E : TypeId} {size bytes : Nat} {z : Value} (he : Elem P T E size bytes z) (s x : Operand)
    (ho : o.op = .call { callee := .builtin .append, args := #[s, x], argTypes := #[T, T] }) (B : Nat) (v : Value) (n : Nat) (xs : List Value) (hs : a.eval s = v) (hown : w.ownsRow B E size v n xs)
    (b of m c : Nat) (news : List Value) (hx : a.eval x = .slice (some ⟨b, of, none⟩) m c) (hl : news.length = m * size) (hc : ∀ j u, news[j]? = some u → w.cell? ⟨b, of + j, none⟩ = some u) (h1 : ∀ u ∈ news, u.oneCell' = true)
    (h63 : n + m ≤ maxLen) (hbytes : (n + m) * bytes ≤ 140737488355328) (hbase : B ≤ w.heap.size)
    (h : ∀ v' w', w'.ownsRow B E size v' (n + m) (xs ++ news) → w.grownBy w' v.ownBlock → K (a.put o.dst v') w') : o.wp P a w K Q := by
  obtain ⟨i0, hi, hz0, hz1, hz2⟩ := info_parts he.inf
  refine wp_append_own w s x T ho B E i0 z size bytes he.und hi hz0 hz1 hz2 he.zs he.pos v n xs hs hown ⟨b, of, none⟩ m c news hx hl ?_ h1 h63 hbytes hbase fun v' w' h2 h3 _ => h v' w' h2 h3
  intro j u hj
  have := hc j u hj
  rw [show (⟨b, of, none⟩ : Addr).add j = ⟨b, of + j, none⟩ by simp [Addr.add]]
  exact this

theorem eEx : Elem Try.prog 37 45 2 48 (.agg #[.slice none 0 0, .slice none 0 0]) := ⟨Try.underlying37, by kernel_rfl, rfl, by omega⟩

set_option maxHeartbeats 4000000 in
set_option maxRecDepth 100000 in
theorem turned_walk (aS : Option Addr) (ns cS : Nat) (s : List Int) (ap : Option Addr) (np cp : Nat) (p : List Int) (aE : Option Addr) (K cE : Nat) (L : List ExD) (atI : Int) (w : World)
    (hS : InRow w aS ns cS s) (hP : InRow w ap np cp p) (hE : InExs w aE K cE L) (hat : I64 atI) :
    Calls Try.prog 4 #[.agg #[.slice aS ns cS, .slice ap np cp], .slice aE K cE, .int .i64 atI] w fun e w' => e = .returned (.bool true) ∧ Below w.heap.size w w' := by
  have hnsm : ns ≤ 9223372036854775807 := by have := hS.nc; have := hS.cm; omega
  have hnpm : np ≤ 9223372036854775807 := by have := hP.nc; have := hP.cm; omega
  have hKm : K ≤ 9223372036854775807 := by have := hE.nc; have := hE.cm; omega
  have HAw := Lib.hid (fun w => awake_any w)
  have HFew := Lib.hid (fun w' (hb : Below w.heap.size w w') => few_any aS ns cS s ap np cp w' (fun h => (hS.rd (by omega)).kept hb) hnsm hnpm)
  have early : ∀ f : Bool, Hid (∀ w', Below w.heap.size w w' → Calls Try.prog 11 #[.agg #[.slice aS ns cS, .slice ap np cp]] w' fun e w'' => e = .returned (.bool f) ∧ Below w'.heap.size w' w'') →
      (f = false ∨ f = true ∧ ((K : Int) < 1) ∨ f = true ∧ ¬ ((K : Int) < 1) ∧ ((20 : Int) < (K : Int)) ∨ f = true ∧ ¬ ((K : Int) < 1) ∧ ¬ ((20 : Int) < (K : Int)) ∧ atI < 0) →
      Calls Try.prog 4 #[.agg #[.slice aS ns cS, .slice ap np cp], .slice aE K cE, .int .i64 atI] w fun e w' => e = .returned (.bool true) ∧ Below w.heap.size w w' := by
    intro f HFew hc
    clear hS hP hE hat
    rcases hc with rfl | ⟨rfl, k1⟩ | ⟨rfl, k1, k2⟩ | ⟨rfl, k1, k2, k3⟩
    all_goals
      go_enter Try.func4, Try.ntmps4
      go_wp2_with first
        | ((with_reducible refine (HAw.out _).mono ?_); rintro e w1 ⟨rfl, hb1⟩; obtain ⟨hc1, hf1⟩ := bcell hb1; have hz1 := hb1.size; (try simp at hz1 hc1 hf1); have lt1 : w.heap.size < w1.heap.size := (by omega))
        | ((with_reducible refine (HFew.out _ (by (repeat first | assumption | exact Below.refl _ _ | refine Below.drew ?_ | refine Below.drewN ?_ _ | refine Below.alloc ?_ (by (first | omega | (simp; done) | (simp; omega))) _ | refine Below.setCell ?_ (by (first | omega | (simp; done) | (simp; omega))) _ | refine Below.trans ?_ (Below.mono (by assumption) (by (first | omega | (simp; done) | (simp; omega))))))).mono ?_); rintro e w2 ⟨rfl, hb2⟩; obtain ⟨hc2, hf2⟩ := bcell hb2; have hz2 := hb2.size; (try simp at hz2 hc2 hf2); have lt2 : w.heap.size < w2.heap.size := (by omega))
        | fail
      go_ret
      exact ⟨rfl, by (repeat first | assumption | exact Below.refl _ _ | refine Below.drew ?_ | refine Below.drewN ?_ _ | refine Below.alloc ?_ (by (first | omega | (simp; done) | (simp; omega))) _ | refine Below.setCell ?_ (by (first | omega | (simp; done) | (simp; omega))) _ | refine Below.trans ?_ (Below.mono (by assumption) (by (first | omega | (simp; done) | (simp; omega)))))⟩
  by_cases hfew : fewB s ns np = true
  · rw [hfew] at HFew
    by_cases hK1 : K < 1
    · exact early true HFew (.inr (.inl ⟨rfl, by omega⟩))
    by_cases hK20 : 20 < K
    · exact early true HFew (.inr (.inr (.inl ⟨rfl, by omega, by omega⟩)))
    by_cases hat0 : atI < 0
    · exact early true HFew (.inr (.inr (.inr ⟨rfl, by omega, by omega, hat0⟩)))
    clear early
    have hfe := hfew
    unfold fewB at hfe
    rw [decide_eq_true_eq] at hfe
    obtain ⟨bE, oE, rfl, hbE, hEx⟩ := hE.at' (by omega)
    obtain ⟨n, G, y, er, hB⟩ := Batch_same aS ns cS s ap np cp p K L w (hS.rd (by omega)) (hP.rd (by omega)) hP.nc hP.cm hP.i hE.len (by omega) (by omega) hE.r
    have HB1 := Lib.hid (fun w' (hb : Below w.heap.size w w') => hB 0 bE oE cE w' (Nat.zero_le _) hb (by have := hb.size; omega) (by rw [turnL_zero]; exact hEx.kept hbE hb))
    obtain ⟨k, hk⟩ : ∃ k : Nat, atI.tmod (K : Int) = (k : Int) := ⟨(atI.tmod K).toNat, by rw [Int.toNat_of_nonneg (Int.tmod_nonneg _ (by omega))]⟩
    have hkK : k < K := by have := Int.tmod_lt_of_pos atI (b := (K : Int)) (by omega); omega
    have HB2 := Lib.hid (fun w' g c (hb : Below w.heap.size w w') (hg : g < w'.heap.size) (hx : ExsAt w' g 0 (turnL L k)) => hB k g 0 c w' (by omega) hb hg hx)
    have hlen := hE.len
    have hKc := hE.nc
    have hcm := hE.cm
    have HN1 := Lib.hid (fun w' (hb : Below w.heap.size w w') => news_of (k := k) (K := K) (m := 0) (hEx.kept hbE hb) (L.drop k) (fun i _ => exAt_drop L k i) (by rw [List.length_drop]; omega))
    have HN2 := Lib.hid (fun w' (hb : Below w.heap.size w w') => news_of (k := 0) (K := K) (m := 0) (hEx.kept hbE hb) (L.take k) (fun i hi => exAt_take L k i (by rw [List.length_take] at hi; omega)) (by rw [List.length_take]; omega))
    simp only [Nat.zero_mul, Nat.add_zero] at HN2
    have Hl1 : Hid ((exCells (L.drop k)).length = (K - k) * 2) := Lib.hid (by rw [exCells_len, List.length_drop, hlen])
    have Hl2 : Hid ((exCells (L.take k)).length = k * 2) := Lib.hid (by rw [exCells_len, List.length_take, hlen, Nat.min_eq_left (by omega)])
    have Ht : Hid (exCells (L.drop k) ++ exCells (L.take k) = exCells (turnL L k)) := Lib.hid (by rw [← exCells_app]; rfl)
    have Hone1 := Lib.hid (exCells_one (L.drop k))
    have Hone2 := Lib.hid (exCells_one (L.take k))
    have hwk : IntKind.i64.wrap (k : Int) = (k : Int) := by rw [IntKind.wrap_i64]; omega
    have hK0i : ¬ ((K : Int) < 1) := by omega
    have hK20i : ¬ ((20 : Int) < (K : Int)) := by omega
    have hKz : ((K : Int) == 0) = false := by simpa using (by omega : ¬ (K : Int) = 0)
    have hki0 : (0 : Int) ≤ (k : Int) := by omega
    have hkiK : (k : Int) ≤ (K : Int) := by omega
    have hkiKl : (k : Int) < (K : Int) := by omega
    have hKic : (K : Int) ≤ (cE : Int) := by omega
    have hkic : (k : Int) ≤ (cE : Int) := by omega
    have hck : ¬ cE = k := by omega
    have hKk : K - k + k = K := by omega
    clear hS hP hE hat hfew hfe hB hEx
    generalize exCells (L.drop k) = N1 at *
    generalize exCells (L.take k) = N2 at *
    go_enter Try.func4, Try.ntmps4
    go_wp2_with first
      | ((with_reducible refine (HAw.out _).mono ?_); rintro e w1 ⟨rfl, hb1⟩; obtain ⟨hc1, hf1⟩ := bcell hb1; have hz1 := hb1.size; (try simp at hz1 hc1 hf1); have lt1 : w.heap.size < w1.heap.size := (by omega))
      | ((with_reducible refine (HFew.out _ (by (repeat first | assumption | exact Below.refl _ _ | refine Below.drew ?_ | refine Below.drewN ?_ _ | refine Below.alloc ?_ (by (first | omega | (simp; done) | (simp; omega))) _ | refine Below.setCell ?_ (by (first | omega | (simp; done) | (simp; omega))) _ | refine Below.trans ?_ (Below.mono (by assumption) (by (first | omega | (simp; done) | (simp; omega))))))).mono ?_); rintro e w2 ⟨rfl, hb2⟩; obtain ⟨hc2, hf2⟩ := bcell hb2; have hz2 := hb2.size; (try simp at hz2 hc2 hf2); have lt2 : w.heap.size < w2.heap.size := (by omega))
      | fail
    have d0 : w2.cell? ⟨w.heap.size, 0, none⟩ = some (.slice aS ns cS) := by rw [hc2 _ _ (by omega), hc1 _ _ (by omega)]; go_simp
    have d1 : w2.cell? ⟨w.heap.size, 1, none⟩ = some (.slice ap np cp) := by rw [hc2 _ _ (by omega), hc1 _ _ (by omega)]; go_simp
    have Hb2 : Hid (Below w.heap.size w w2) := Lib.hid (by (repeat first | assumption | exact Below.refl _ _ | refine Below.drew ?_ | refine Below.drewN ?_ _ | refine Below.alloc ?_ (by (first | omega | (simp; done) | (simp; omega))) _ | refine Below.setCell ?_ (by (first | omega | (simp; done) | (simp; omega))) _ | refine Below.trans ?_ (Below.mono (by assumption) (by (first | omega | (simp; done) | (simp; omega))))))
    clear hb1 hb2 hc1 hc2 hf1 hf2 HAw HFew
    refine wp_region_held_drew (S := fun _ => Hid True) (by kernel_rfl) (Lib.hid trivial) (fun hHeld => ?_)
    refine tkW (v := ?_) 1 rfl (by kernel_rfl) (by kernel_rfl) (by kernel_rfl) (fun _ _ _ h => h) (by rfl) (by assumption) ?_ ?_
    rotate_left
    · intro w' hSw; clear hSw; go_simp; (try with_reducible rfl)
    (try simp only [Act.put, List.setIfInBounds_toArray, List.set_cons_zero, List.set_cons_succ])
    refine tkW (v := ?_) 2 rfl (by kernel_rfl) (by kernel_rfl) (by kernel_rfl) (fun _ _ _ h => h) (by rfl) (by assumption) ?_ ?_
    rotate_left
    · intro w' hSw; clear hSw; go_simp; (try with_reducible rfl)
    (try simp only [Act.put, List.setIfInBounds_toArray, List.set_cons_zero, List.set_cons_succ])
    refine tkW (v := ?_) 3 rfl (by kernel_rfl) (by kernel_rfl) (by kernel_rfl) (fun _ _ _ h => h) (by rfl) (by assumption) ?_ ?_
    rotate_left
    · intro w' hSw; clear hSw; go_simp; (try with_reducible rfl)
    (try simp only [Act.put, List.setIfInBounds_toArray, List.set_cons_zero, List.set_cons_succ])
    refine tkW (v := ?_) 5 rfl (by kernel_rfl) (by kernel_rfl) (by kernel_rfl) (fun _ _ _ h => h) (by rfl) (by assumption) ?_ ?_
    rotate_left
    · intro w' hSw; clear hSw; go_simp; (try with_reducible rfl)
    (try simp only [Act.put, List.setIfInBounds_toArray, List.set_cons_zero, List.set_cons_succ])
    refine tkW (v := ?_) 6 rfl (by kernel_rfl) (by kernel_rfl) (by kernel_rfl) (fun _ _ _ h => h) (by rfl) (by assumption) ?_ ?_
    rotate_left
    · intro w' hSw; clear hSw; go_simp; (try with_reducible rfl)
    (try simp only [Act.put, List.setIfInBounds_toArray, List.set_cons_zero, List.set_cons_succ])
    refine tkW (v := ?_) 7 rfl (by kernel_rfl) (by kernel_rfl) (by kernel_rfl) (fun _ _ _ h => h) (by rfl) (by assumption) ?_ ?_
    rotate_left
    · intro w' hSw; clear hSw; go_simp; (try with_reducible rfl)
    (try simp only [Act.put, List.setIfInBounds_toArray, List.set_cons_zero, List.set_cons_succ])
    refine tkC 0 rfl (by kernel_rfl) (by rfl) (fun KK hK => ?_)
    go_simp
    (try dsimp only)
    refine hK.out _ _ (Lib.hid trivial) (fun hHeld => ?_)
    clear hK KK
    (try simp only [Act.put, List.setIfInBounds_toArray, List.set_cons_zero, List.set_cons_succ])
    have own0 : (w2.alloc (.cells #[] 45)).drew.ownsRow w2.heap.size 45 2 (.slice (some ⟨w2.heap.size, 0, none⟩) 0 0) 0 [] := World.ownsRow_lit (base := w2.heap.size) (size := 2) w2 #[] 0 (Nat.le_refl _) (by unfold maxLen; omega) rfl
    have hb4 : Below w2.heap.size w2 (w2.alloc (.cells #[] 45)).drew := by (repeat first | assumption | exact Below.refl _ _ | refine Below.drew ?_ | refine Below.drewN ?_ _ | refine Below.alloc ?_ (by (first | omega | (simp; done) | (simp; omega))) _ | refine Below.setCell ?_ (by (first | omega | (simp; done) | (simp; omega))) _ | refine Below.trans ?_ (Below.mono (by assumption) (by (first | omega | (simp; done) | (simp; omega)))))
    refine tkC 4 rfl (by kernel_rfl) (by rfl) (fun KK hK => ?_)
    refine op_appM eEx (.tmp 38) (.tmp 41) rfl w2.heap.size _ 0 [] rfl own0 bE (oE + k * 2) (K - k) (cE - k) N1 rfl Hl1.out (HN1.out _ (Hb2.out.trans (hb4.mono (by omega)))) Hone1.out (by unfold maxLen; omega) (by omega) (by simp) ?_
    intro v5 w5 hown5 hg5
    have hb5 := Below.grownOf hb4 own0 hg5 (by simp)
    have hz5 := hb5.size
    rw [Nat.zero_add, List.nil_append] at hown5
    (try dsimp only)
    refine hK.out _ _ (Lib.hid trivial) (fun hHeld => ?_)
    clear hK KK
    (try simp only [Act.put, List.setIfInBounds_toArray, List.set_cons_zero, List.set_cons_succ])
    refine tkC 8 rfl (by kernel_rfl) (by rfl) (fun KK hK => ?_)
    refine op_appM eEx (.tmp 42) (.tmp 45) rfl w2.heap.size _ (K - k) N1 rfl hown5 bE oE k cE N2 rfl Hl2.out (HN2.out _ (Hb2.out.trans (hb5.mono (by omega)))) Hone2.out (by unfold maxLen; omega) (by omega) hz5 ?_
    intro v6 w6 hown6 hg6
    have hb6 := Below.grownOf hb5 hown5 hg6 hz5
    have hz6 := hb6.size
    rw [hKk, Ht.out] at hown6
    obtain ⟨gT, cT, rfl, _, hgT⟩ := hown6.form (by omega)
    have HX := Lib.hid (exsAt_own hown6)
    (try dsimp only)
    refine hK.out _ _ (Lib.hid trivial) (fun hHeld => ?_)
    clear hK KK
    (try simp only [Act.put, List.setIfInBounds_toArray, List.set_cons_zero, List.set_cons_succ])
    refine tkW (v := ?_) 9 rfl (by kernel_rfl) (by kernel_rfl) (by kernel_rfl) (fun _ _ _ h => h) (by rfl) (by assumption) ?_ ?_
    rotate_left
    · intro w' hSw; clear hSw; go_simp; (try with_reducible rfl)
    (try simp only [Act.put, List.setIfInBounds_toArray, List.set_cons_zero, List.set_cons_succ])
    refine wpAnyH_done (by kernel_rfl) ?_ _
    have Hb6 : Hid (Below w.heap.size w w6) := Lib.hid (Hb2.out.trans (hb6.mono (by omega)))
    have lt6 : w.heap.size < w6.heap.size := by omega
    have e0 : w6.cell? ⟨w.heap.size, 0, none⟩ = some (.slice aS ns cS) := (hb6.cell (p := ⟨w.heap.size, 0, none⟩) lt2).trans d0
    have e1 : w6.cell? ⟨w.heap.size, 1, none⟩ = some (.slice ap np cp) := (hb6.cell (p := ⟨w.heap.size, 1, none⟩) lt2).trans d1
    clear hb4 own0 hown5 hg5 hb5 hown6 hg6 hb6 d0 d1 HN1 HN2 Hone1 Hone2
    go_wp2_with fail
    ((with_reducible refine (HB1.out _ Hb6.out).mono ?_); rintro e w7 ⟨a7, c7, rfl, hr7, hb7⟩)
    have Hb7 : Hid (Below w.heap.size w w7) := Lib.hid (Hb6.out.trans (hb7.mono (by omega)))
    have hz7 := hb7.size
    have f0 : w7.cell? ⟨w.heap.size, 0, none⟩ = some (.slice aS ns cS) := (hb7.cell (p := ⟨w.heap.size, 0, none⟩) lt6).trans e0
    have f1 : w7.cell? ⟨w.heap.size, 1, none⟩ = some (.slice ap np cp) := (hb7.cell (p := ⟨w.heap.size, 1, none⟩) lt6).trans e1
    have HX7 := Lib.hid (HX.out.kept hgT hb7)
    have Hr7 := Lib.hid hr7
    clear hb7 e0 e1 hr7 HX
    go_wp2_with fail
    ((with_reducible refine (HB2.out _ gT cT Hb7.out (by omega) HX7.out).mono ?_); rintro e w8 ⟨a8, c8, rfl, hr8, hb8⟩)
    have Hb8 : Hid (Below w.heap.size w w8) := Lib.hid (Hb7.out.trans (hb8.mono (by omega)))
    have HSm := Lib.hid (lSame_any a7 a8 n c7 c8 G w8 (Hr7.out.kept hb8) hr8)
    clear hb8 hr8 Hr7 HX7
    go_wp2_with fail
    ((with_reducible refine (HSm.out).mono ?_); rintro e w9 ⟨rfl, rfl⟩)
    go_wp2
    go_ret
    exact ⟨rfl, Hb8.out⟩
  · exact early false (by rw [show fewB s ns np = false by simpa using hfew] at HFew; exact HFew) (.inl rfl)
end Go.Proofs.Ythingodgjeicpaa
