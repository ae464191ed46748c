/-
  A slice of examples that came in, read as data.
-/
import Derived.Test.YthingodgjeicpaaTurnW
import Derived.WalkKit
import Derived.ProofKit
import Derived.OpenShut
namespace Go.Proofs.Ythingodgjeicpaa
open Go.ChangeShapes Go.WideShapes Go.ChangeAt Go.RowKit
set_option linter.unusedVariables false
set_option linter.unusedSimpArgs false

theorem skolemL {P : Nat → ExD → Prop} : ∀ K : Nat, (∀ i, i < K → ∃ e, P i e) → ∃ L : List ExD, L.length = K ∧ ∀ i, i < K → P i (exAt L i)
  | 0, _ => ⟨[], rfl, fun i hi => absurd hi (by omega)⟩
  | K + 1, h => by
    obtain ⟨L, hl, hL⟩ := skolemL K (fun i hi => h i (by omega))
    obtain ⟨e, he⟩ := h K (by omega)
    refine ⟨L ++ [e], by simp [hl], fun i hi => ?_⟩
    by_cases c : i < K
    · have := hL i c
      unfold exAt at this ⊢
      rw [List.getElem?_append_left (by omega)]
      exact this
    · have : i = L.length := by omega
      subst this
      unfold exAt
      rw [List.getElem?_append_right (Nat.le_refl _)]
      simpa [hl] using he

theorem cells_two {w : World} {base : Nat} {a : Addr} {cs : List Value} (h : w.cells? base a 2 = some cs) : ∃ c0 c1, cs = [c0, c1] ∧ w.cell? (a.add 0) = some c0 ∧ w.cell? (a.add 1) = some c1 := by
  unfold World.cells? at h
  split at h
  · simp [List.range_succ, Option.bind_eq_some_iff] at h
    obtain ⟨c0, h0, l1, ⟨c1, h1, rfl⟩, rfl⟩ := h
    exact ⟨c0, c1, rfl, h0, h1⟩
  · cases h

theorem row_of_trod {H : Type} {enc : TypeId × Value → H} {W : World} {held : Bool} {fuel : Nat} {c : Value} {x : DataW H × List MemPlace}
    (h : DataW.trod enc Try.prog W 0 (fun _ => true) held fuel 26 [c] = some x) : ∃ a l k z, c = .slice a l k ∧ InRow W a l k z := by
  rcases open_ints Try.underlying26 Try.underlying38 (by kernel_rfl) h with ⟨hcs, _⟩ | ⟨x, l, k, zs, hcs, _, hl, hm, hz, _, hcell, hwz⟩
  · simp at hcs
    exact ⟨none, 0, 0, _, hcs, inRow (.inl ⟨rfl, rfl, rfl, rfl⟩)⟩
  · simp at hcs
    exact ⟨some x, l, k, _, hcs, inRow (.inr ⟨_, rfl, hl, hm, by simpa using hz, hcell, hwz⟩)⟩

theorem exs_of_trod {H : Type} {enc : TypeId × Value → H} {W : World} {held : Bool} {fuel : Nat} {a : Option Addr} {len cap : Nat} {x : DataW H × List MemPlace}
    (h : DataW.trod enc Try.prog W 0 (fun _ => true) held fuel 37 [.slice a len cap] = some x) : ∃ L, InExs W a len cap L := by
  rcases DataW.trod_slice Try.underlying37 h with ⟨hcs, _⟩ | ⟨ad, l, c, elems, rest, n, _, hcs, rfl, hb, hl, hm, hlen, hel, _, _⟩
  · simp at hcs
    obtain ⟨rfl, rfl, rfl⟩ := hcs
    exact ⟨[], ⟨rfl, Nat.le_refl _, by omega, fun h => absurd h (by omega), fun i hi => absurd hi (by simp)⟩⟩
  · simp at hcs
    obtain ⟨rfl, rfl, rfl⟩ := hcs
    rw [show Try.prog.cellsOf 45 = 2 from by kernel_rfl] at hel
    have each : ∀ i, i < len → ∃ e : ExD, W.cell? (ad.add (i * 2)) = some (.slice e.ax e.nx e.cx) ∧ W.cell? (ad.add (i * 2 + 1)) = some (.slice e.aT e.nt e.ct) ∧ InRow W e.ax e.nx e.cx e.x ∧ InRow W e.aT e.nt e.ct e.t := by
      intro i hi
      have h1 := hel i hi
      rw [List.getElem?_eq_getElem (by omega), Option.bind_eq_some_iff] at h1
      obtain ⟨cs', hcs', hf⟩ := h1
      obtain ⟨c0, c1, rfl, k0, k1⟩ := cells_two hcs'
      obtain ⟨y0, y1, fu, _, _, g0, g1⟩ := trod_struct2 Try.underlying45 hf
      obtain ⟨a0, l0, p0, z0, rfl, r0⟩ := row_of_trod (c := c0) (by simpa [show Try.prog.cellsOf 26 = 1 from by kernel_rfl] using g0)
      obtain ⟨a1, l1, p1, z1, rfl, r1⟩ := row_of_trod (c := c1) (by simpa [show Try.prog.cellsOf 26 = 1 from by kernel_rfl] using g1)
      refine ⟨⟨a0, l0, p0, z0, a1, l1, p1, z1⟩, ?_, ?_, r0, r1⟩
      · simpa [Addr.add] using k0
      · rw [← k1]; congr 1; simp [Addr.add]; split <;> simp_all <;> omega
    obtain ⟨L, hL, hP⟩ := skolemL len each
    refine ⟨L, ⟨hL, hl, by unfold maxLen at hm; exact hm, fun h0 => ?_, fun i hi => (hP i (by omega)).2.2⟩⟩
    obtain ⟨b, o, sp⟩ := ad
    have k0 := (hP 0 h0).1
    have hs : sp = none := by simpa [Addr.add] using World.cell?_spot k0
    subst hs
    refine ⟨b, o, rfl, World.block_lt_of_cell? W _ (by simpa [Addr.add] using k0), fun i hi => ?_⟩
    obtain ⟨q0, q1, _⟩ := hP i (by omega)
    have ea : ∀ n, (⟨b, o, none⟩ : Addr).add n = ⟨b, o + n, none⟩ := fun n => by simp [Addr.add]
    rw [ea] at q0 q1
    exact ⟨q0, by rw [Nat.add_assoc]; exact q1⟩
end Go.Proofs.Ythingodgjeicpaa
