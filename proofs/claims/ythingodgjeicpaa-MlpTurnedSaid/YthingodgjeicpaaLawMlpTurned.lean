/-
  Whatever the net, the examples and the place: regattalaw07.MlpTurned returns true, and the inputs read as they did; no condition.
  The frame of the row follows the kit's proof-skeleton.
-/
import Derived.Test.YthingodgjeicpaaRows
import Derived.Test.YthingodgjeicpaaExIn
import Derived.WalkKit
import Derived.ProofKit
import Derived.OpenShut
import Derived.ShutString
import Derived.ChangeOld
import Derived.Below
namespace Go.Proofs.Ythingodgjeicpaa.mlpTurned
open Go.ChangeShapes Go.WideShapes Go.ChangeAt Go.RowKit
set_option linter.unusedVariables false
set_option linter.unusedSimpArgs false
set_option linter.unusedSimpArgs false

theorem own : ownKnob Try.prog.godebug = none := by kernel_rfl
theorem laidOut : laidOutB Try.prog = true := by kernel_rfl

/-- A slice of integers that came in: nil, or a row of cells. -/
def IsRow (k : IntKind) (w : World) (a : Option Addr) (len cap : Nat) (zs : List Int) : Prop :=
  (a = none ∧ len = 0 ∧ cap = 0 ∧ zs = []) ∨
  ∃ x, a = some x ∧ len ≤ cap ∧ cap ≤ maxLen ∧ zs.length = cap ∧ (∀ i, i < zs.length → w.cell? (x.add i) = some (.int k (zs.getD i 0))) ∧ ∀ n ∈ zs, (Lit.int k n).wf = true

theorem two_of {cs : Array Value} (h : cs.size = 2) : ∃ c0 c1, cs = #[c0, c1] := by
  obtain ⟨l⟩ := cs
  match l, h with
  | [c0, c1], _ => exact ⟨c0, c1, rfl⟩

theorem walk (a0x : Option Addr) (len0x cap0x : Nat) (z0x : List Int) (a0y : Option Addr) (len0y cap0y : Nat) (z0y : List Int) (a1 : Option Addr) (len1 cap1 : Nat) (L1 : List ExD) (a2 : Int) (w : World) (w0x : IsRow .i64 w a0x len0x cap0x z0x) (w0y : IsRow .i64 w a0y len0y cap0y z0y) (w1 : InExs w a1 len1 cap1 L1) (w2 : (Lit.int .i64 a2).wf = true) :
    Calls Try.prog 4 #[.agg #[.slice a0x len0x cap0x, .slice a0y len0y cap0y], .slice a1 len1 cap1, .int .i64 a2] w fun e w' => e = .returned (.bool true) ∧ Below w.heap.size w w' := by
  exact turned_walk a0x len0x cap0x (z0x.take len0x) a0y len0y cap0y (z0y.take len0y) a1 len1 cap1 L1 a2 w (inRow w0x) (inRow w0y) w1 (i64_of_wf w2)

set_option maxRecDepth 100000 in
theorem lifted (os : Os) (started : os.Started) (H : Type) (enc : TypeId × Value → H) :
    ReturnsInHanded {} Try.checked os 4 .any (Rows.mlpTurnedSpec.pre6 enc Try.prog Try.f4 Rows.mlpTurnedRow.domain false) (Rows.mlpTurnedSpec.post enc Try.prog Try.f4 false true false false) := by
  refine returnsInHanded_of_change (C := Try.checked) own started (by kernel_rfl) Try.func4
    (ChangeSpec.witness6 (enc := enc) (C := Try.checked) false ⟨#[], #[.agg #[.slice none 0 0, .slice none 0 0], .slice none 0 0, .int .i64 0], []⟩ 8 (by kernel_rfl) (by kernel_rfl) (by kernel_rfl) (by kernel_rfl)) ?_
  intro W base args ds gs before hval0 hW hcnd _
  have hval : ∀ (j : Nat) t v, Try.f4.params[j]? = some t → args[j]? = some v → Value.okWide Try.prog W .any base t v := hval0
  have hW' := hW
  obtain ⟨p, q, hA0, hV, rfl, hfz, hnd⟩ := hW
  have hA : DataW.TrodAll enc Try.prog W 0 (fun _ => true) true Try.f4.params.toList args.toList ds p := hA0
  rw [Try.params4] at hA hval
  obtain ⟨v0, vs0, d0, ds0, p0, q0, hargs, rfl, rfl, h0, r0⟩ := trodAll_cons hA
  obtain ⟨v1, vs1, d1, ds1, p1, q1, rfl, rfl, rfl, h1, r1⟩ := trodAll_cons r0
  obtain ⟨v2, vs2, d2, ds2, p2, q2, rfl, rfl, rfl, h2, r2⟩ := trodAll_cons r1
  obtain ⟨rfl, rfl, rfl⟩ := trodAll_nil r2
  obtain rfl : args = #[v0, v1, v2] := by cases args; simp_all
  obtain ⟨rfl, rfl⟩ := trodVars_none hV
  obtain ⟨cs0, rfl, hcs0⟩ := okWide_struct Try.underlying36 (hval 0 36 v0 rfl rfl)
  rw [show Try.prog.cellsOf 36 = 2 from by kernel_rfl] at hcs0
  obtain ⟨c0x, c0y, rfl⟩ := two_of hcs0
  have k0 := h0
  have lt0 : ∀ x ∈ p0, x.block < W.heap.size := by obtain ⟨m, hm⟩ := k0; exact DataW.trod_lt m _ _ _ hm
  obtain ⟨a0x, len0x, cap0x, z0x, a0y, len0y, cap0y, z0y, rfl, rfl, w0x, w0y⟩ : ∃ a l c z a' l' c' z', c0x = .slice a l c ∧ c0y = .slice a' l' c' ∧ IsRow .i64 W a l c z ∧ IsRow .i64 W a' l' c' z' := by
    obtain ⟨fuel, hf⟩ := h0
    obtain ⟨y0, y1, fu, _, _, g0, g1⟩ := trod_struct2 Try.underlying36 hf
    have e0 : ∃ a l c z, c0x = .slice a l c ∧ IsRow .i64 W a l c z := by
      rcases open_ints Try.underlying23 Try.underlying3 (by kernel_rfl) g0 with ⟨hcs, _⟩ | ⟨x, l, c, zs, hcs, _, hl, hm, hz, _, hcell, hwz⟩
      · have e : c0x = .slice none 0 0 := by simpa [Value.cells, show Try.prog.cellsOf 23 = 1 from by kernel_rfl] using hcs
        exact ⟨none, 0, 0, [], e, .inl ⟨rfl, rfl, rfl, rfl⟩⟩
      · have e : c0x = .slice (some x) l c := by simpa [Value.cells, show Try.prog.cellsOf 23 = 1 from by kernel_rfl] using hcs
        exact ⟨some x, l, c, zs, e, .inr ⟨_, rfl, hl, hm, by simpa using hz, hcell, hwz⟩⟩
    have e1 : ∃ a l c z, c0y = .slice a l c ∧ IsRow .i64 W a l c z := by
      rcases open_ints Try.underlying26 Try.underlying38 (by kernel_rfl) g1 with ⟨hcs, _⟩ | ⟨x, l, c, zs, hcs, _, hl, hm, hz, _, hcell, hwz⟩
      · have e : c0y = .slice none 0 0 := by simpa [Value.cells, show Try.prog.cellsOf 26 = 1 from by kernel_rfl] using hcs
        exact ⟨none, 0, 0, [], e, .inl ⟨rfl, rfl, rfl, rfl⟩⟩
      · have e : c0y = .slice (some x) l c := by simpa [Value.cells, show Try.prog.cellsOf 26 = 1 from by kernel_rfl] using hcs
        exact ⟨some x, l, c, zs, e, .inr ⟨_, rfl, hl, hm, by simpa using hz, hcell, hwz⟩⟩
    obtain ⟨a, l, c, z, e, h⟩ := e0
    obtain ⟨a', l', c', z', e', h'⟩ := e1
    exact ⟨a, l, c, z, a', l', c', z', e, e', h, h'⟩
  obtain ⟨a1, len1, cap1, rfl⟩ := okWide_slice Try.underlying37 (hval 1 37 v1 rfl rfl)
  have k1 := h1
  have lt1 : ∀ x ∈ p1, x.block < W.heap.size := by obtain ⟨m, hm⟩ := k1; exact DataW.trod_lt m _ _ _ hm
  obtain ⟨L1, w1⟩ : ∃ L, InExs W a1 len1 cap1 L := by
    obtain ⟨fuel, hf⟩ := h1
    exact exs_of_trod hf
  obtain ⟨a2, rfl, rfl, rfl, w2⟩ := open_int Try.underlying3 (hval 2 3 v2 rfl rfl) h2
  clear hA0 hval0
  refine (walk a0x len0x cap0x z0x a0y len0y cap0y z0y a1 len1 cap1 L1 a2 W w0x w0y w1 w2).mono fun e W' ⟨he, bel⟩ => ?_
  subst he
  exact ⟨_, rfl, _, _, _, [], _, [], hW', trodAll_mk1 (shut_bool Try.underlying4 _), (trodAll_cons_mk (Below.trod laidOut (by kernel_rfl) (of_decide_eq_true (by kernel_rfl)) k0 bel lt0) (trodAll_cons_mk (Below.trod laidOut (by kernel_rfl) (of_decide_eq_true (by kernel_rfl)) k1 bel lt1) (trodAll_cons_mk (shut_int Try.underlying3 w2) trodAll_mk0))), rfl, bel.frame _, fun h => by cases h⟩

theorem over : Rows.mlpTurnedRow.holds Try.pinned (OpenSpec.ofChange Rows.mlpTurnedSpec) :=
  OpenClaim.holds_of_wide 4 Try.f4 rfl rfl rfl rfl rfl rfl rfl ⟨rfl, rfl, rfl, rfl, rfl⟩ rfl rfl rfl rfl rfl (by kernel_rfl) Try.func4 (by kernel_rfl)
    (of_decide_eq_true (by kernel_rfl)) (by unfold Func.isWrapper; first | (rw [if_pos (by decide +kernel)]; kernel_rfl) | (rw [if_neg (by decide +kernel)]; exact ⟨rfl, rfl⟩))
    (fun os started H enc _ => lifted os started H enc)

theorem proved : Rows.MlpTurnedSaid := over
#print axioms proved
end Go.Proofs.Ythingodgjeicpaa.mlpTurned
