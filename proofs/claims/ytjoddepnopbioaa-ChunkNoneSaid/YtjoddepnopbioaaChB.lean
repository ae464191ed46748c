/-
  regattaref20.Part, chunk.Cut: what each answers.
-/
import Derived.Test.YtjoddepnopbioaaChA
namespace Go.Proofs.Ytjoddepnopbioaa
open Go.RowKit
set_option linter.unusedVariables false
set_option linter.unusedSimpArgs false

/-- The i-th part of a text, of a size. -/
def piece (l : List Int) (s i : Nat) : List Int := (l.drop (i * s)).take s

theorem take_snoc (l : List Int) (p t : Nat) (h : p + t < l.length) : (l.drop p).take (t + 1) = (l.drop p).take t ++ [l[p + t]?.getD 0] := by
  rw [List.take_add_one]
  simp [h]

set_option maxHeartbeats 400000 in
set_option maxRecDepth 20000 in
theorem Part_any (a : Option Addr) (n c : Nat) (l : List Int) (s i p : Nat) (w : World) (h : Rd w .u8 a n l) (hp : i * s = p) (hp1 : p ≤ 100000000) (hs : s ≤ 32768) (hi : i ≤ 100000000) :
    Calls Try.prog 13 #[.slice a n c, .int .i64 s, .int .i64 i] w fun e w' => ∃ v, e = .returned v ∧ Ow w' w.heap.size 5 .u8 v (piece l s i) ∧ Below w.heap.size w w' := by
  have hmul : (i : Int) * (s : Int) = (p : Int) := by rw [← hp]; simp
  have hl := h.1
  have hn := h.2.1
  have Hl := Lib.hid hl; clear hl
  have H := Lib.hid h; clear h
  have Hp := Lib.hid hp; clear hp
  go_enter Try.func13, Try.ntmps13
  go_wp2
  go_loopw [7, 8] (fun v k wr => ∃ t : Nat, t ≤ s ∧ Hid (t = 0 ∨ p + t ≤ n) ∧ k = .int .i64 ((p : Int) + (t : Int)) ∧ wr.ownsRow w.heap.size 5 1 v t (((l.drop p).take t).map (Value.int .u8)) ∧ Hid (Below w.heap.size w wr)) (fun _ k _ => p + s - (intOf k).toNat)
  case atStart => exact ⟨0, Nat.zero_le _, .inl rfl, rfl, by simpa using World.ownsRow_nil _ _ _ _, Below.refl _ _⟩
  case round =>
    obtain ⟨t, ht, hpt, rfl, hown, hb⟩ := hrel
    by_cases h1 : t < s
    · by_cases h2 : p + t < n
      · obtain ⟨b, o, rfl, hbb, hcell⟩ := (H.out.kept hb.out).at h2
        have Hb := Lib.hid hb.out.size
        have Hs := Lib.hid (take_snoc l p t (by rw [Hl.out]; exact h2))
        go_wp2_with (at_builtin; refine wpl_app1 eBs rfl _ _ rfl w.heap.size _ t _ rfl (hown.alloc _) wr.heap.size (.int .u8 (l[p + t]?.getD 0)) rfl (World.cell?_alloc_at _ _ _ _ rfl) rfl ?c3 ?c4 ?c5 ?_)
        case c3 => unfold maxLen; omega
        case c4 => omega
        case c5 => have := Hb.out; simp; omega
        intro v' w1 hown1 hg
        have Hb1 := Lib.hid (Below.grownOf (hb.out.alloc Hb.out _) (hown.alloc _) hg (by have := Hb.out; simp; omega))
        clear hg hown
        have Ho1 := Lib.hid hown1; clear hown1
        go_wp2
        go_roundw
        case rel => exact ⟨t + 1, by omega, .inr (by omega), by go_num, by rw [Hs.out]; simpa using Ho1.out, Hb1.out⟩
        case measure => simp [intOf]; omega
      · have Hfin := Lib.hid (show (l.drop p).take t = piece l s i by
          have h3 := Hl.out
          have h4 := hpt.out
          unfold piece
          rw [Hp.out, List.take_of_length_le (by simp; omega), List.take_of_length_le (by simp; omega)])
        have Hown := Lib.hid hown; clear hown
        go_wp2
        go_ret
        exact ⟨_, rfl, by rw [← Hfin.out]; exact Ow.of Hown.out, hb.out⟩
    · obtain rfl : t = s := by omega
      have Hfin := Lib.hid (show (l.drop p).take t = piece l t i by unfold piece; rw [Hp.out])
      have Hown := Lib.hid hown; clear hown
      go_wp2
      go_ret
      exact ⟨_, rfl, by rw [← Hfin.out]; exact Ow.of Hown.out, hb.out⟩

/-! ### chunk.Cut -/
theorem eBss : Elem Try.prog 29 22 1 24 (.slice none 0 0) := ⟨Try.underlying29, by kernel_rfl, rfl, by omega⟩

/-- Many slices that the call owns. -/
def OwS (w : World) (B : Nat) (E : TypeId) (k : IntKind) (xs : List Value) (ll : List (List Int)) : Prop :=
  xs.length = ll.length ∧ ∀ i, i < ll.length → Ow w B E k (xs[i]?.getD undef) (ll[i]?.getD [])

theorem cut_piece {w : World} {a : Option Addr} {n s p i m : Nat} {l : List Int} (h : Rd w .u8 a n l) (hp : i * s = p) (hpn : p ≤ n) (hm : m = n - p ∧ n ≤ p + s ∨ m = s ∧ p + s ≤ n) {a' : Option Addr}
    (ha : 0 < m → ∀ b o, a = some ⟨b, o, none⟩ → a' = some ⟨b, o + p, none⟩) : Rd w .u8 a' m (piece l s i) := by
  have h1 := h.cut p (p + m) (by omega) (by omega) (fun h => ha (by omega))
  rw [Nat.add_sub_cancel_left] at h1
  have e : (l.take (p + m)).drop p = piece l s i := by
    unfold piece
    rw [hp, List.drop_take, Nat.add_sub_cancel_left]
    rcases hm with ⟨rfl, hq⟩ | ⟨rfl, hq⟩
    · have := h.1
      rw [List.take_of_length_le (by simp; omega), List.take_of_length_le (by simp; omega)]
    · rfl
  rwa [e] at h1

def pieces (l : List Int) (s n : Nat) : List (List Int) := (List.range n).map (piece l s)

theorem pieces_succ (l : List Int) (s n : Nat) : pieces l s (n + 1) = pieces l s n ++ [piece l s n] := by
  simp [pieces, List.range_succ]

theorem OwS.snoc {w : World} {B : Nat} {E : TypeId} {k : IntKind} {xs : List Value} {ll : List (List Int)} {v : Value} {l : List Int} (h : OwS w B E k xs ll) (hv : Ow w B E k v l) : OwS w B E k (xs ++ [v]) (ll ++ [l]) := by
  refine ⟨by simp [h.1], fun i hi => ?_⟩
  simp at hi
  by_cases e : i < ll.length
  · rw [List.getElem?_append_left (by rw [h.1]; exact e), List.getElem?_append_left e]; exact h.2 i e
  · have : i = ll.length := by omega
    subst this
    rw [List.getElem?_append_right (by rw [h.1]; exact Nat.le_refl _), List.getElem?_append_right (Nat.le_refl _)]
    simpa [h.1] using hv

theorem Ow.kept {w w' : World} {B : Nat} {E : TypeId} {k : IntKind} {v : Value} {l : List Int} (h : Ow w B E k v l) (hb : Below w.heap.size w w') : Ow w' B E k v l := ownsRow_kept h hb

theorem OwS.kept {w w' : World} {B : Nat} {E : TypeId} {k : IntKind} {xs : List Value} {ll : List (List Int)} (h : OwS w B E k xs ll) (hb : Below w.heap.size w w') : OwS w' B E k xs ll :=
  ⟨h.1, fun i hi => (h.2 i hi).kept hb⟩

/-- Two rows of two element types are two blocks. -/
theorem own_ne {w : World} {B B' : Nat} {E E' : TypeId} {size size' : Nat} {v v' : Value} {n n' : Nat} {xs xs' : List Value} (h : w.ownsRow B E size v n xs) (h' : w.ownsRow B' E' size' v' n' xs') (hne : E ≠ E') : v.ownBlock = none ∨ v.ownBlock ≠ v'.ownBlock := by
  rcases h.2 with ⟨rfl, _⟩ | ⟨g, cap, cur, rfl, hb, hg, _⟩
  · exact .inl rfl
  · right
    rcases h'.2 with ⟨rfl, _⟩ | ⟨g', cap', cur', rfl, hb', hg', _⟩
    · simp [Value.ownBlock]
    · simp only [Value.ownBlock, ne_eq, Option.some.injEq]
      rintro rfl
      rw [hg] at hg'
      simp only [Option.some.injEq, Obj.cells.injEq] at hg'
      exact hne hg'.2.1

theorem OwS.grown {w w' : World} {B B' : Nat} {E E' : TypeId} {k : IntKind} {xs : List Value} {ll : List (List Int)} {size : Nat} {v : Value} {n : Nat} {ys : List Value} (h : OwS w B E k xs ll) (hv : w.ownsRow B' E' size v n ys) (hg : w.grownBy w' v.ownBlock) (hne : E ≠ E') : OwS w' B E k xs ll :=
  ⟨h.1, fun i hi => World.ownsRow.kept (h.2 i hi) hg (own_ne (h.2 i hi) hv hne)⟩

set_option maxHeartbeats 1600000 in
set_option maxRecDepth 20000 in
theorem Cut_any (a : Option Addr) (n c : Nat) (l : List Int) (s : Int) (w : World) (h : Rd w .u8 a n l) (hnone : a = none → c = 0) (hc : n ≤ c) (hcm : c ≤ maxLen) (m : Nat) (hok : parts n s = ((m : Int), 0)) (hm : m ≤ 1024) (s' : Nat) (hs' : s = s') (hs0 : 1 ≤ s') (hs1 : s' ≤ 32768) (hfrom : ∀ i : Nat, i < m → i * s' ≤ n) :
    Calls Try.prog 11 #[.slice a n c, .int .i64 s] w fun e w' => ∃ v xs, e = .returned (.tuple #[v, .int .i64 0]) ∧ w'.ownsRow w.heap.size 22 1 v m xs ∧ OwS w' w.heap.size 5 .u8 xs (pieces l s' m) ∧ Below w.heap.size w w' := by
  subst hs'
  have hn := h.2.1
  obtain ⟨i0, hi, hz0, hz1, hz2⟩ := info_parts eBss.inf
  have HA := Lib.hid (Parts_any n (s' : Int) w (by omega))
  rw [hok] at HA
  have Hok := Lib.hid hok; clear hok
  have H := Lib.hid h; clear h
  have Hfrom := Lib.hid hfrom; clear hfrom
  have Hnone := Lib.hid hnone; clear hnone
  go_enter Try.func11, Try.ntmps11
  go_wp2_with fail
  refine HA.out.mono ?_
  rintro e w' ⟨rfl, rfl⟩
  go_wp2_with (at_make; refine wpList_make_own _ rfl _ _ 29 rfl w.heap.size 22 i0 (.slice none 0 0) 1 eBss.und hi hz0 hz1 _ _ _ m rfl rfl rfl ?b1 ?b2 ?b3 ?_)
  case b1 => rw [hz2]; omega
  case b2 => unfold maxLen; omega
  case b3 => exact Nat.le_refl _
  intro w1 hown hg
  have Hb := Lib.hid ((Below.refl w.heap.size w).grown hg (Nat.le_refl _) (by intro k hk; cases hk))
  have Ho := Lib.hid hown
  clear hown hg
  go_wp2
  go_loopw [8, 24] (fun v k wr => ∃ (i : Nat) (xs : List Value), i ≤ m ∧ k = .int .i64 i ∧ Hid (wr.ownsRow w.heap.size 22 1 v i xs) ∧ Hid (OwS wr w.heap.size 5 .u8 xs (pieces l s' i)) ∧ Hid (Below w.heap.size w wr)) (fun _ k _ => m - (intOf k).toNat)
  case atStart => exact ⟨0, [], Nat.zero_le _, rfl, Ho.out, ⟨rfl, fun i hi => absurd hi (by simp [pieces])⟩, Hb.out⟩
  case round =>
    obtain ⟨i, xs, hi', rfl, hown, hos, hb⟩ := hrel
    by_cases hlt : i < m
    · obtain ⟨p, hp⟩ : ∃ p, i * s' = p := ⟨_, rfl⟩
      have hpn := Hfrom.out i hlt
      rw [hp] at hpn
      have hmul : (i : Int) * (s' : Int) = (p : Int) := by rw [← hp]; simp
      have Hp := Lib.hid hp; clear hp
      clear hi hz0 hz1 hz2 
      have Hcut := Lib.hid (fun (m : Nat) (hm : m = n - p ∧ n ≤ p + s' ∨ m = s' ∧ p + s' ≤ n) (a' : Option Addr) (ha : 0 < m → ∀ b o, a = some ⟨b, o, none⟩ → a' = some ⟨b, o + p, none⟩) => cut_piece (H.out.kept hb.out) Hp.out hpn hm ha)
      have Hsz := Lib.hid hb.out.size
      have hcpd : (p + s' ≤ n ∧ ¬ c = p) ∨ (¬ p + s' ≤ n ∧ ¬ c = p) ∨ (p = c ∧ ¬ p + s' ≤ n) := by omega
      rcases hcpd with ⟨hq, hcpd⟩ | ⟨hq, hcpd⟩ | ⟨rfl, hq⟩
      all_goals
        go_wp2_with fail
        all_goals
          ((with_reducible refine (Clone_any _ _ _ (piece l s' i) _ (Hcut.out _ (by omega) _ ?_) ?_).mono ?_))
          · first
            | (intro hlt' b o e; exfalso; omega)
            | (intro hlt' b o e; simp [e, Addr.add]; done)
          · first
            | (intro e; have := Hnone.out (by simpa using e); omega)
            | (intro e; rfl)
          rintro e w2 ⟨v2, rfl, how2, hb2⟩
          obtain ⟨a2, c2, rfl, _⟩ := ownsRow_form how2
          have Ho2 := Lib.hid how2
          have Hrow := Lib.hid (ownsRow_kept hown.out hb2)
          have Hos2 := Lib.hid (hos.out.kept hb2)
          have Hb2 := Lib.hid (hb.out.trans (hb2.mono Hsz.out))
          clear how2 hb2
          have Hsz2 := Lib.hid Hb2.out.size
          go_wp2_with (at_builtin; refine wpl_app1 eBss rfl _ _ rfl w.heap.size _ i _ rfl (Hrow.out.alloc _) w2.heap.size (.slice a2 (piece l s' i).length c2) rfl (World.cell?_alloc_at _ _ _ _ rfl) rfl (by unfold maxLen; omega) (by omega) (by have := Hsz2.out; simp; omega) ?_)
          intro v' w3 hown3 hg3
          have Hb3 := Lib.hid (Below.grownOf (Hb2.out.alloc Hsz2.out _) (Hrow.out.alloc _) hg3 (by have := Hsz2.out; simp; omega))
          have Hal := Lib.hid (Below.alloc (Below.refl w2.heap.size w2) (Nat.le_refl _) (.cells #[.slice a2 (piece l s' i).length c2] 22))
          have Hos3 := Lib.hid (((Hos2.out.snoc (ownsRow_mono Ho2.out (by have := Hsz.out; omega))).kept Hal.out).grown (Hrow.out.alloc _) hg3 (by decide))
          have Hrow3 := Lib.hid hown3
          clear hown3 hg3
          go_wp2
          go_roundw
          case rel => exact ⟨i + 1, _, by omega, by go_num, Hrow3.out, by rw [pieces_succ]; exact Hos3.out, Hb3.out⟩
          case measure => simp [intOf]; omega
    · obtain rfl : i = m := by omega
      go_wp2
      go_ret2
      exact ⟨_, _, rfl, hown.out, hos.out, hb.out⟩

/-- What can't be cut. -/
theorem Cut_bad (a : Option Addr) (n c : Nat) (s : Int) (w : World) (hn : n ≤ 140737488351232) (e : Int) (he : e ≠ 0) (m : Int) (hok : parts n s = (m, e)) :
    Calls Try.prog 11 #[.slice a n c, .int .i64 s] w fun r w' => r = .returned (.tuple #[.slice none 0 0, .int .i64 e]) ∧ w = w' := by
  have HA := Lib.hid (Parts_any n s w (by omega))
  rw [hok] at HA
  have hne : (e == 0) = false := by simpa using he
  have hne2 : (e != 0) = true := by simpa using he
  clear hok he
  go_enter Try.func11, Try.ntmps11
  go_wp2_with fail
  refine HA.out.mono ?_
  rintro r w' ⟨rfl, rfl⟩
  go_wp2
  go_ret2
  exact ⟨rfl, rfl⟩
end Go.Proofs.Ytjoddepnopbioaa
