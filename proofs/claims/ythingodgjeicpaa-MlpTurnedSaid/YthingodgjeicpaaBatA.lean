/-
  Layer mlp: batches: their examples in memory, what is kept of them, and what is refused at once.
-/
import Derived.Test.YthingodgjeicpaaMeanB
import Derived.Test.YthingodgjeicpaaLawC
import Derived.Test.YthingodgjeicpaaRegW
import Derived.Deep.AppendLies
namespace Go.Proofs.Ythingodgjeicpaa
open Go.RowKit
set_option linter.unusedVariables false
set_option linter.unusedSimpArgs false

/-- An example: an input and a target. -/
structure ExD where
  ax : Option Addr
  nx : Nat
  cx : Nat
  x : List Int
  aT : Option Addr
  nt : Nat
  ct : Nat
  t : List Int
def exNil : ExD := ⟨none, 0, 0, [], none, 0, 0, []⟩
def exAt (L : List ExD) (i : Nat) : ExD := L[i]?.getD exNil
/-- The examples' cells. -/
def ExsAt (w : World) (b o : Nat) (L : List ExD) : Prop := ∀ i, i < L.length → w.cell? ⟨b, o + i * 2, none⟩ = some (.slice (exAt L i).ax (exAt L i).nx (exAt L i).cx) ∧ w.cell? ⟨b, o + i * 2 + 1, none⟩ = some (.slice (exAt L i).aT (exAt L i).nt (exAt L i).ct)
theorem ExsAt.kept {w w' : World} {b o : Nat} {L : List ExD} (h : ExsAt w b o L) (hlt : b < w.heap.size) (hb : Below w.heap.size w w') : ExsAt w' b o L :=
  fun i hi => ⟨(hb.cell (p := ⟨b, o + i * 2, none⟩) hlt).trans (h i hi).1, (hb.cell (p := ⟨b, o + i * 2 + 1, none⟩) hlt).trans (h i hi).2⟩
theorem InRow.kept {w w' : World} {a : Option Addr} {n c : Nat} {l : List Int} (h : InRow w a n c l) (hb : Below w.heap.size w w') : InRow w' a n c l := ⟨h.nc, h.cm, h.nil, fun hn => (h.rd hn).kept hb, h.i⟩
def ExR (w : World) (L : List ExD) : Prop := ∀ i, i < L.length → InRow w (exAt L i).ax (exAt L i).nx (exAt L i).cx (exAt L i).x ∧ InRow w (exAt L i).aT (exAt L i).nt (exAt L i).ct (exAt L i).t
theorem ExR.kept {w w' : World} {L : List ExD} (h : ExR w L) (hb : Below w.heap.size w w') : ExR w' L := fun i hi => ⟨(h i hi).1.kept hb, (h i hi).2.kept hb⟩
/-- Does an example go with a net? -/
def Fit (s : List Int) (m np : Nat) (e : ExD) : Prop := np = cntN s ∧ e.nx = szN s 0 ∧ e.nt = szN s m

theorem first_odd {P : Nat → Prop} {K : Nat} (h : ∃ i, i < K ∧ ¬ P i) : ∃ i, i < K ∧ ¬ P i ∧ ∀ j, j < i → P j := by
  obtain ⟨i, hi, hp⟩ := h
  induction i using Nat.strongRecOn with
  | ind i ih =>
    by_cases hq : ∀ j, j < i → P j
    · exact ⟨i, hi, hp, hq⟩
    · obtain ⟨j, hj⟩ := Classical.not_forall.1 hq
      obtain ⟨hj, hnp⟩ := Classical.not_imp.1 hj
      exact ih j hj (by omega) hnp

theorem A64_gradS (s p x t : List Int) (m : Nat) : A64 (gradS s p x t m) := A64_of (fun v hv => by
  unfold gradS partS prods at hv
  simp only [List.mem_flatMap, List.mem_append, List.mem_map, List.mem_range] at hv
  obtain ⟨j, _, h | h⟩ := hv
  · obtain ⟨a, _, b, _, rfl⟩ := h
    exact clampI_I64 _
  · obtain ⟨k, hk, rfl⟩ := List.getElem_of_mem h
    have := A64_slv s p x t m (m - 1 - j) k
    rw [List.getElem?_eq_getElem hk] at this
    exact this)

/-- The gradients and the losses of the first o examples. -/
def gsK (s p : List Int) (m : Nat) (L : List ExD) (o : Nat) : List (List Int) := (List.range o).map fun i => gradS s p (exAt L i).x (exAt L i).t m
def fsK (s p : List Int) (m : Nat) (L : List ExD) (o : Nat) : List Int := (List.range o).map fun i => sqFar (val s p (exAt L i).x m) (exAt L i).t (szN s m)
theorem gsK_succ (s p : List Int) (m : Nat) (L : List ExD) (o : Nat) : gsK s p m L (o + 1) = gsK s p m L o ++ [gradS s p (exAt L o).x (exAt L o).t m] := by simp [gsK, List.range_succ]
theorem fsK_succ (s p : List Int) (m : Nat) (L : List ExD) (o : Nat) : fsK s p m L (o + 1) = fsK s p m L o ++ [sqFar (val s p (exAt L o).x m) (exAt L o).t (szN s m)] := by simp [fsK, List.range_succ]
theorem gsK_len (s p : List Int) (m : Nat) (L : List ExD) (o : Nat) : (gsK s p m L o).length = o := by simp [gsK]
theorem fsK_len (s p : List Int) (m : Nat) (L : List ExD) (o : Nat) : (fsK s p m L o).length = o := by simp [fsK]
theorem gsK_at (s p : List Int) (m : Nat) (L : List ExD) {i o : Nat} (h : i < o) : (gsK s p m L o)[i]?.getD [] = gradS s p (exAt L i).x (exAt L i).t m := by simp [gsK, List.getElem?_map, List.getElem?_range h]
theorem A64_gsK (s p : List Int) (m : Nat) (L : List ExD) (o j : Nat) : A64 ((gsK s p m L o)[j]?.getD []) := by
  unfold gsK
  rw [List.getElem?_map]
  cases (List.range o)[j]? with
  | none => exact A64_of (by simp)
  | some v => exact A64_gradS s p _ _ m
theorem A64_fsK (s p : List Int) (m : Nat) (L : List ExD) (o : Nat) : A64 (fsK s p m L o) := fun j => by
  unfold fsK
  rw [List.getElem?_map]
  cases (List.range o)[j]? with
  | none => unfold I64; simp
  | some v => exact clampI_I64 _

/-- No slice of the list lies in the block of v. -/
def NeS (v : Value) (xs : List Value) (k : Nat) : Prop := ∀ i, i < k → (xs[i]?.getD undef).ownBlock = none ∨ (xs[i]?.getD undef).ownBlock ≠ v.ownBlock
theorem NeS.snoc {v x : Value} {xs : List Value} {k : Nat} (h : NeS v xs k) (hk : xs.length = k) (hx : x.ownBlock = none ∨ x.ownBlock ≠ v.ownBlock) : NeS v (xs ++ [x]) (k + 1) := fun i hi => by
  by_cases e : i < k
  · rw [List.getElem?_append_left (by omega)]; exact h i e
  · have : i = xs.length := by omega
    subst this
    rw [List.getElem?_append_right (Nat.le_refl _)]
    simpa using hx
/-- What is appended to v leaves the other slices. -/
theorem OwS.far {w w' : World} {B : Nat} {E : TypeId} {k : IntKind} {xs : List Value} {ll : List (List Int)} {v : Value} (h : OwS w B E k xs ll) (hn : NeS v xs ll.length) (hg : w.grownBy w' v.ownBlock) : OwS w' B E k xs ll :=
  ⟨h.1, fun i hi => World.ownsRow.kept (h.2 i hi) hg (hn i hi)⟩
theorem NeS.grown {w : World} {B g n c : Nat} {E : TypeId} {k : IntKind} {xs : List Value} {ll : List (List Int)} {v : Value} (h : OwS w B E k xs ll) (hn : NeS v xs ll.length) (hg : v.ownBlock = some g ∨ g = w.heap.size) : NeS (.slice (some ⟨g, 0, none⟩) n c) xs ll.length := fun i hi => by
  rcases hn i hi with h1 | h1
  · exact .inl h1
  · right
    rcases hg with e | e
    · rw [e] at h1; simpa [Value.ownBlock] using h1
    · subst e
      intro h2
      have := (World.ownsRow.lt (h.2 i hi) w.heap.size (by rw [h2]; simp [Value.ownBlock])).2
      omega

/-- The lists of a list of lists, as vec.Means reads them. -/
theorem rdS_of {w : World} {B k q : Nat} {a : Option Addr} {c : Nat} {xs : List Value} {ll : List (List Int)} (h : w.ownsRow B 26 1 (.slice a k c) k xs) (ho : OwS w B 38 .i64 xs ll) (hk : ll.length = k) (hq : ∀ j, j < k → (ll[j]?.getD []).length = q) (hm : q ≤ 140737488351232) : RdS w B a k q ll := by
  refine ⟨hk, fun j hj => ?_⟩
  obtain ⟨g, rfl, hB, hlt, hc, _⟩ := ownsRow_at h hj
  obtain ⟨aj, cj, hx, hr, hb⟩ := ho.rd (i := j) (n := q) (by omega) (hq j hj) hm
  exact ⟨g, 0, aj, cj, rfl, hlt, hB, by rw [Nat.zero_add, hc, hx], fun y hy => (hb y hy).1, hr⟩

/-- 'v = append(v, x)', v the call's own; where the new one lies. -/
theorem wpl_app1L {P : Program} {ops : Array Oper} {rest : List Oper} {o : Oper} {a : Act} {Q : Exit → Act → World → Prop} {w : World} {T E : TypeId} {bytes : Nat} {z : Value} (he : Elem P T E 1 bytes z) (hgd : o.guard = none) (s x : Operand)
    (ho : o.op = .call { callee := .builtin .append, args := #[s, x], argTypes := #[T, T] }) (B : Nat) (v : Value) (n : Nat) (xs : List Value) (hs : a.eval s = v) (hown : w.ownsRow B E 1 v n xs)
    (g : Nat) (u : Value) (hx : a.eval x = .slice (some ⟨g, 0, none⟩) 1 1) (hc : w.cell? ⟨g, 0, none⟩ = some u) (h1 : u.oneCell' = true)
    (h63 : n + 1 ≤ maxLen) (hbytes : (n + 1) * bytes ≤ 140737488355328) (hbase : B ≤ w.heap.size)
    (h : ∀ g' cap w', w'.ownsRow B E 1 (.slice (some ⟨g', 0, none⟩) (n + 1) cap) (n + 1) (xs ++ [u]) → w.grownBy w' v.ownBlock → (v.ownBlock = some g' ∨ g' = w.heap.size) → wpList P ops Q rest (a.put o.dst (.slice (some ⟨g', 0, none⟩) (n + 1) cap)) w') : wpList P ops Q (o :: rest) a w := by
  obtain ⟨i0, hi, hz0, hz1, hz2⟩ := info_parts he.inf
  refine wpList_append_lies _ hgd s x T ho B E i0 z 1 bytes he.und hi hz0 hz1 hz2 he.zs he.pos v n xs hs hown ⟨g, 0, none⟩ 1 1 [u] hx rfl ?_ ?_ (by omega) h63 hbytes hbase _ rfl fun g' cap w' h2 h3 h4 _ => h g' cap w' h2 h3 h4
  · intro j u' hj
    match j, hj with
    | 0, hj => simp at hj; subst hj; simpa [Addr.add] using hc
  · intro u' hu; simp at hu; subst hu; exact h1

set_option maxHeartbeats 800000 in
theorem Batch_bad (aS : Option Addr) (ns cS : Nat) (s : List Int) (P L : Value) (w : World) (hs : Rd w .i64 aS ns s) (hok : ¬ okS s) :
    Calls Try.prog 12 #[.pointer none, .int .i64 1, .slice aS ns cS, P, L] w fun e w' => e = .returned (.tuple #[.slice none 0 0, .int .i64 0, .int .i64 70]) ∧ w = w' := by
  have HCo := Lib.hid (mCount_any aS ns cS s w hs)
  have hce : cnt s = (0, 70) := by unfold cnt; rw [if_neg hok]
  rw [hce] at HCo
  clear hs hok hce
  go_enter Try.func12, Try.ntmps12
  go_wp2_with fail
  ((with_reducible refine (HCo.out).mono ?_); rintro e w1 ⟨rfl, rfl⟩)
  go_wp2
  go_ret3
  exact ⟨rfl, rfl⟩
end Go.Proofs.Ythingodgjeicpaa
