/-
  Slices that the call owns, many of them; appends of one and of four cells; what a call leaves of them. No program is named.
-/
import Derived.Test.YtkmfdggodinjaaaUnitC
import Derived.Deep.RegionLaw
namespace Go.Proofs.Ytkmfdggodinjaaa
open Go.RowKit
set_option linter.unusedVariables false
set_option linter.unusedSimpArgs false

/-- Many slices that the call owns. -/
def OwS (w : World) (B : Nat) (E : TypeId) (k : IntKind) (xs : List Value) (ll : List (List Int)) : Prop :=
  xs.length = ll.length ∧ ∀ i, i < ll.length → Ow w B E k (xs[i]?.getD undef) (ll[i]?.getD [])

theorem OwS.snoc {w : World} {B : Nat} {E : TypeId} {k : IntKind} {xs : List Value} {ll : List (List Int)} {v : Value} {l : List Int} (h : OwS w B E k xs ll) (hv : Ow w B E k v l) : OwS w B E k (xs ++ [v]) (ll ++ [l]) := by
  refine ⟨by simp [h.1], fun i hi => ?_⟩
  simp at hi
  by_cases e : i < ll.length
  · rw [List.getElem?_append_left (by rw [h.1]; exact e), List.getElem?_append_left e]; exact h.2 i e
  · have : i = ll.length := by omega
    subst this
    rw [List.getElem?_append_right (by rw [h.1]; exact Nat.le_refl _), List.getElem?_append_right (Nat.le_refl _)]
    simpa [h.1] using hv

theorem Ow.kept {w w' : World} {B : Nat} {E : TypeId} {k : IntKind} {v : Value} {l : List Int} (h : Ow w B E k v l) (hb : Below w.heap.size w w') : Ow w' B E k v l := ownsRow_kept h hb
theorem Ow.mono {w : World} {B B' : Nat} {E : TypeId} {k : IntKind} {v : Value} {l : List Int} (h : Ow w B E k v l) (hB : B' ≤ B) : Ow w B' E k v l := ownsRow_mono h hB

theorem OwS.kept {w w' : World} {B : Nat} {E : TypeId} {k : IntKind} {xs : List Value} {ll : List (List Int)} (h : OwS w B E k xs ll) (hb : Below w.heap.size w w') : OwS w' B E k xs ll :=
  ⟨h.1, fun i hi => (h.2 i hi).kept hb⟩
theorem OwS.mono {w : World} {B B' : Nat} {E : TypeId} {k : IntKind} {xs : List Value} {ll : List (List Int)} (h : OwS w B E k xs ll) (hB : B' ≤ B) : OwS w B' E k xs ll := ⟨h.1, fun i hi => (h.2 i hi).mono hB⟩

/-- Two rows of two element types are two blocks. -/
theorem own_ne {w : World} {B B' : Nat} {E E' : TypeId} {size size' : Nat} {v v' : Value} {n n' : Nat} {xs xs' : List Value} (h : w.ownsRow B E size v n xs) (h' : w.ownsRow B' E' size' v' n' xs') (hne : E ≠ E') : v.ownBlock = none ∨ v.ownBlock ≠ v'.ownBlock := by
  rcases h.2 with ⟨rfl, _⟩ | ⟨g, cap, cur, rfl, hb, hg, _⟩
  · exact .inl rfl
  · right
    rcases h'.2 with ⟨rfl, _⟩ | ⟨g', cap', cur', rfl, hb', hg', _⟩
    · simp [Value.ownBlock]
    · simp only [Value.ownBlock, ne_eq, Option.some.injEq]
      rintro rfl
      rw [hg] at hg'
      simp only [Option.some.injEq, Obj.cells.injEq] at hg'
      exact hne hg'.2.1

theorem OwS.grown {w w' : World} {B B' : Nat} {E E' : TypeId} {k : IntKind} {xs : List Value} {ll : List (List Int)} {size : Nat} {v : Value} {n : Nat} {ys : List Value} (h : OwS w B E k xs ll) (hv : w.ownsRow B' E' size v n ys) (hg : w.grownBy w' v.ownBlock) (hne : E ≠ E') : OwS w' B E k xs ll :=
  ⟨h.1, fun i hi => World.ownsRow.kept (h.2 i hi) hg (own_ne (h.2 i hi) hv hne)⟩

/-! ### what a call that writes known blocks leaves -/
theorem ownsRow_chg {S : Nat → Prop} {w w' : World} {B : Nat} {E : TypeId} {size : Nat} {v : Value} {n : Nat} {xs : List Value} (h : w.ownsRow B E size v n xs) (hc : Chg S w w') (hS : ∀ k, S k → k < B) : w'.ownsRow B E size v n xs := by
  refine ⟨h.1, ?_⟩
  rcases h.2 with hn | ⟨g, cap, cur, rfl, hb, hgg, rest⟩
  · exact .inl hn
  · exact .inr ⟨g, cap, cur, rfl, hb, (hc.block g (lt_of_block hgg) (fun hs => by have := hS g hs; omega)).trans hgg, rest⟩
theorem OwS.chg {S : Nat → Prop} {w w' : World} {B : Nat} {E : TypeId} {k : IntKind} {xs : List Value} {ll : List (List Int)} (h : OwS w B E k xs ll) (hc : Chg S w w') (hS : ∀ k, S k → k < B) : OwS w' B E k xs ll :=
  ⟨h.1, fun i hi => ownsRow_chg (h.2 i hi) hc hS⟩

theorem Chg.cell {S : Nat → Prop} {a b : World} (h : Chg S a b) {k o : Nat} (hk : k < a.heap.size) (hs : ¬ S k) : b.cell? ⟨k, o, none⟩ = a.cell? ⟨k, o, none⟩ := World.cell?_of_block (h.block k hk hs)
theorem Chg.frozen {S : Nat → Prop} {a b : World} (h : Chg S a b) {k o : Nat} (hk : k < a.heap.size) (hs : ¬ S k) : b.frozen? ⟨k, o, none⟩ = a.frozen? ⟨k, o, none⟩ := by
  unfold World.frozen?
  rw [h.block k hk hs]

theorem Chg.alloc {S : Nat → Prop} {a w : World} (h : Chg S a w) (o : Obj) : Chg S a (w.alloc o) :=
  h.trans (Chg.of_below ((Below.refl _ _).alloc (Nat.le_refl _) o))
theorem Chg.drew {S : Nat → Prop} {a w : World} (h : Chg S a w) : Chg S a w.drew := h.trans (Chg.of_below (Below.refl _ _).drew)
theorem Chg.drewN {S : Nat → Prop} {a w : World} (h : Chg S a w) (n : Nat) : Chg S a (w.drewN n) := h.trans (Chg.of_below (Go.Proofs.Ytkmfdggodinjaaa.Below.drewN (Below.refl _ _) n))
/-- A store into a block that is new to a. -/
theorem Chg.setCell {S : Nat → Prop} {a w : World} (h : Chg S a w) (p : Addr) (hp : a.heap.size ≤ p.block) (v : Value) : Chg S a (w.setCell p v) :=
  ⟨h.os, h.tape, h.output, by simpa using h.size, fun k hk hs => (Below.heap_setCell _ _ _ _ (by omega)).trans (h.block k hk hs)⟩
theorem Chg.setCell_in {S : Nat → Prop} {a w : World} (h : Chg S a w) (p : Addr) (hp : S p.block) (v : Value) : Chg S a (w.setCell p v) :=
  ⟨h.os, h.tape, h.output, by simpa using h.size, fun k hk hs => (Below.heap_setCell _ _ _ _ (fun e => hs (by rw [e]; exact hp))).trans (h.block k hk hs)⟩
theorem Chg.then_below {S : Nat → Prop} {a b c : World} {B : Nat} (h : Chg S a b) (k : Below B b c) (hB : a.heap.size ≤ B) : Chg S a c :=
  ⟨k.os.trans h.os, k.tape.trans h.tape, k.output.trans h.output, Nat.le_trans h.size k.size, fun i hi hs => (k.block i (by omega)).trans (h.block i hi hs)⟩
theorem Chg.grownOf {S : Nat → Prop} {a w w' : World} {B : Nat} {v : Value} {E : TypeId} {size n : Nat} {xs : List Value} (h : Chg S a w) (hown : w.ownsRow B E size v n xs) (hg : w.grownBy w' v.ownBlock) (hB : a.heap.size ≤ B) : Chg S a w' :=
  ⟨hg.os.trans h.os, hg.tape.trans h.tape, hg.output.trans h.output, Nat.le_trans h.size hg.size, fun k hk hs => (hg.block k (Nat.lt_of_lt_of_le hk h.size) (fun e => by have := (hown.lt k e.symm).1; omega)).trans (h.block k hk hs)⟩
/-- What was changed inside a new block counts for nothing ahead of it. -/
theorem Chg.drop {S T : Nat → Prop} {a b c : World} (h : Chg S a b) (k : Chg T b c) (hT : ∀ i, T i → S i ∨ a.heap.size ≤ i) : Chg S a c :=
  ⟨k.os.trans h.os, k.tape.trans h.tape, k.output.trans h.output, Nat.le_trans h.size k.size, fun i hi hs => (k.block i (Nat.lt_of_lt_of_le hi h.size) (fun e => by rcases hT i e with h | h; exact hs h; omega)).trans (h.block i hi hs)⟩

theorem Rd.chg {S : Nat → Prop} {w w' : World} {k : IntKind} {a : Option Addr} {n : Nat} {l : List Int} (h : Rd w k a n l) (hc : Chg S w w') (hS : ∀ x, a = some x → ¬ S x.block) : Rd w' k a n l := by
  refine ⟨h.1, h.2.1, fun hn => ?_⟩
  obtain ⟨b, o, e, hbb, hcc⟩ := h.2.2 hn
  refine ⟨b, o, e, Nat.lt_of_lt_of_le hbb hc.size, fun j hj => ?_⟩
  rw [hc.cell hbb (hS _ e)]
  exact hcc j hj

theorem Un.chg {w w' : World} {u : Option Nat} {n : Int} {S : Nat → Prop} (h : Un w u n) (hc : Chg S w w') (hS : ∀ k, UC u k → ¬ S k) : Un w' u n :=
  fun b e => ⟨(hc.cell (h b e).lt (hS b e)).trans (h b e).cell, (hc.frozen (h b e).lt (hS b e)).trans (h b e).frozen⟩
theorem Un.grown {w w' : World} {u : Option Nat} {n : Int} {B : Nat} {v : Value} {E : TypeId} {size m : Nat} {xs : List Value} (h : Un w u n) (hown : w.ownsRow B E size v m xs) (hg : w.grownBy w' v.ownBlock) (hB : ∀ k, UC u k → k < B) : Un w' u n :=
  fun b e => by
    have hne : some b ≠ v.ownBlock := fun e' => by have := (hown.lt b e'.symm).1; have := hB b e; omega
    have hbl : w'.heap[b]? = w.heap[b]? := hg.block b (h b e).lt (fun e' => hne e')
    exact ⟨(World.cell?_of_block hbl).trans (h b e).cell, by have := (h b e).frozen; unfold World.frozen? at *; rw [hbl]; exact this⟩

/-! ### append, as an operation of a region -/
theorem op_app {P : Program} {o : Oper} {a : Act} {K : Act → World → Prop} {Q : Exit → Act → World → Prop} {w : World} {T E : TypeId} {size bytes : Nat} {z : Value} (he : Elem P T E size bytes z) (s x : Operand)
    (ho : o.op = .call { callee := .builtin .append, args := #[s, x], argTypes := #[T, T] }) (B : Nat) (v : Value) (n : Nat) (xs : List Value) (hs : a.eval s = v) (hown : w.ownsRow B E size v n xs)
    (g : Nat) (news : List Value) (hx : a.eval x = .slice (some ⟨g, 0, none⟩) 1 1) (hl : news.length = size) (hc : ∀ j u, news[j]? = some u → w.cell? ⟨g, j, none⟩ = some u) (h1 : ∀ u ∈ news, u.oneCell' = true)
    (h63 : n + 1 ≤ maxLen) (hbytes : (n + 1) * bytes ≤ 140737488355328) (hbase : B ≤ w.heap.size)
    (h : ∀ v' w', w'.ownsRow B E size v' (n + 1) (xs ++ news) → w.grownBy w' v.ownBlock → K (a.put o.dst v') w') : o.wp P a w K Q := by
  obtain ⟨i0, hi, hz0, hz1, hz2⟩ := info_parts he.inf
  refine wp_append_own w s x T ho B E i0 z size bytes he.und hi hz0 hz1 hz2 he.zs he.pos v n xs hs hown ⟨g, 0, none⟩ 1 1 news hx (by omega) ?_ h1 h63 hbytes hbase fun v' w' h2 h3 _ => h v' w' h2 h3
  intro j u hj
  have := hc j u hj
  rw [show (⟨g, 0, none⟩ : Addr).add j = ⟨g, j, none⟩ by simp only [Addr.add, Nat.zero_add]; split <;> simp_all]
  exact this

theorem wpl_app {P : Program} {ops : Array Oper} {rest : List Oper} {o : Oper} {a : Act} {Q : Exit → Act → World → Prop} {w : World} {T E : TypeId} {size bytes : Nat} {z : Value} (he : Elem P T E size bytes z) (hgd : o.guard = none) (s x : Operand)
    (ho : o.op = .call { callee := .builtin .append, args := #[s, x], argTypes := #[T, T] }) (B : Nat) (v : Value) (n : Nat) (xs : List Value) (hs : a.eval s = v) (hown : w.ownsRow B E size v n xs)
    (g : Nat) (news : List Value) (hx : a.eval x = .slice (some ⟨g, 0, none⟩) 1 1) (hl : news.length = size) (hc : ∀ j u, news[j]? = some u → w.cell? ⟨g, j, none⟩ = some u) (h1 : ∀ u ∈ news, u.oneCell' = true)
    (h63 : n + 1 ≤ maxLen) (hbytes : (n + 1) * bytes ≤ 140737488355328) (hbase : B ≤ w.heap.size)
    (h : ∀ v' w', w'.ownsRow B E size v' (n + 1) (xs ++ news) → w.grownBy w' v.ownBlock → wpList P ops Q rest (a.put o.dst v') w') : wpList P ops Q (o :: rest) a w :=
  wpl_of_op hgd (op_app he s x ho B v n xs hs hown g news hx hl hc h1 h63 hbytes hbase h)
end Go.Proofs.Ytkmfdggodinjaaa
