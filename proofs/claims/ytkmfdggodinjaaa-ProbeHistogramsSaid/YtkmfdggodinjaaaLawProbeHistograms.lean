/-
  Whatever the numbers and the bins: regattalaw29.ProbeHistograms returns true, and the inputs read as they did; no condition.
  The frame of the row follows the kit's proof-skeleton.
-/
import Derived.Test.YtkmfdggodinjaaaRows
import Derived.Test.YtkmfdggodinjaaaHisW
import Derived.WalkKit
import Derived.ProofKit
import Derived.OpenShut
import Derived.ShutString
import Derived.ChangeOld
import Derived.Below
import Derived.Deep.Strs
namespace Go.Proofs.Ytkmfdggodinjaaa.probeHistograms
open Go.ChangeShapes Go.WideShapes Go.ChangeAt Go.RowKit
set_option linter.unusedVariables false
set_option linter.unusedSimpArgs false
set_option linter.unusedSimpArgs false

theorem own : ownKnob Try.prog.godebug = none := by kernel_rfl
theorem laidOut : laidOutB Try.prog = true := by kernel_rfl

/-- A slice of integers that came in: nil, or a row of cells. -/
def IsRow (k : IntKind) (w : World) (a : Option Addr) (len cap : Nat) (zs : List Int) : Prop :=
  (a = none ∧ len = 0 ∧ cap = 0 ∧ zs = []) ∨
  ∃ x, a = some x ∧ len ≤ cap ∧ cap ≤ maxLen ∧ zs.length = cap ∧ (∀ i, i < zs.length → w.cell? (x.add i) = some (.int k (zs.getD i 0))) ∧ ∀ n ∈ zs, (Lit.int k n).wf = true

theorem three_of {cs : Array Value} (h : cs.size = 3) : ∃ c0 c1 c2, cs = #[c0, c1, c2] := by
  obtain ⟨l⟩ := cs
  match l, h with
  | [c0, c1, c2], _ => exact ⟨c0, c1, c2, rfl⟩

theorem two_of {cs : Array Value} (h : cs.size = 2) : ∃ c0 c1, cs = #[c0, c1] := by
  obtain ⟨l⟩ := cs
  match l, h with
  | [c0, c1], _ => exact ⟨c0, c1, rfl⟩

theorem walk (a0 : Option Addr) (len0 cap0 : Nat) (z0 : List Int) (a1x a1y a1z : Int) (w : World) (w0 : IsRow .i64 w a0 len0 cap0 z0) (w1x : (Lit.int .i64 a1x).wf = true) (w1y : (Lit.int .i64 a1y).wf = true) (w1z : (Lit.int .i64 a1z).wf = true) :
    Calls Try.prog 3 #[.slice a0 len0 cap0, .agg #[.int .i64 a1x, .int .i64 a1y, .int .i64 a1z]] w fun e w' => e = .returned (.bool true) ∧ Below w.heap.size w w' := by
  exact hist_walk a0 len0 cap0 (z0.take len0) a1x a1y a1z w (inRowP w0) (i64_of_wfP w1x) (i64_of_wfP w1y) (i64_of_wfP w1z)

set_option maxRecDepth 100000 in
theorem lifted (os : Os) (started : os.Started) (H : Type) (enc : TypeId × Value → H) :
    ReturnsInHanded {} Try.checked os 3 .any (Rows.probeHistogramsSpec.pre6 enc Try.prog Try.f3 Rows.probeHistogramsRow.domain false) (Rows.probeHistogramsSpec.post enc Try.prog Try.f3 false true false false) := by
  refine returnsInHanded_of_change (C := Try.checked) own started (by kernel_rfl) Try.func3
    (ChangeSpec.witness6 (enc := enc) (C := Try.checked) false ⟨#[], #[.slice none 0 0, .agg #[.int .i64 0, .int .i64 0, .int .i64 0]], []⟩ 8 (by kernel_rfl) (by kernel_rfl) (by kernel_rfl) (by kernel_rfl)) ?_
  intro W base args ds gs before hval0 hW hcnd _
  have hval : ∀ (j : Nat) t v, Try.f3.params[j]? = some t → args[j]? = some v → Value.okWide Try.prog W .any base t v := hval0
  have hW' := hW
  obtain ⟨p, q, hA0, hV, rfl, hfz, hnd⟩ := hW
  have hA : DataW.TrodAll enc Try.prog W 0 (fun _ => true) true Try.f3.params.toList args.toList ds p := hA0
  rw [Try.params3] at hA hval
  obtain ⟨v0, vs0, d0, ds0, p0, q0, hargs, rfl, rfl, h0, r0⟩ := trodAll_cons hA
  obtain ⟨v1, vs1, d1, ds1, p1, q1, rfl, rfl, rfl, h1, r1⟩ := trodAll_cons r0
  obtain ⟨rfl, rfl, rfl⟩ := trodAll_nil r1
  obtain rfl : args = #[v0, v1] := by cases args; simp_all
  obtain ⟨rfl, rfl⟩ := trodVars_none hV
  obtain ⟨a0, len0, cap0, rfl⟩ := okWide_slice Try.underlying22 (hval 0 22 v0 rfl rfl)
  have k0 := h0
  have lt0 : ∀ x ∈ p0, x.block < W.heap.size := by obtain ⟨m, hm⟩ := k0; exact DataW.trod_lt m _ _ _ hm
  obtain ⟨z0, w0⟩ : ∃ zs, IsRow .i64 W a0 len0 cap0 zs := by
    obtain ⟨fuel, hf⟩ := h0
    rcases open_ints Try.underlying22 Try.underlying23 (by kernel_rfl) hf with ⟨hcs, _⟩ | ⟨x, l, c, zs, hcs, _, hl, hm, hz, _, hcell, hwz⟩
    · simp [Value.cells] at hcs
      obtain ⟨rfl, rfl, rfl⟩ := hcs
      exact ⟨[], .inl ⟨rfl, rfl, rfl, rfl⟩⟩
    · simp [Value.cells] at hcs
      obtain ⟨rfl, rfl, rfl⟩ := hcs
      exact ⟨zs, .inr ⟨_, rfl, hl, hm, by simpa using hz, hcell, hwz⟩⟩
  obtain ⟨cs1, rfl, hcs1⟩ := okWide_struct Try.underlying25 (hval 1 25 v1 rfl rfl)
  rw [show Try.prog.cellsOf 25 = 3 from by kernel_rfl] at hcs1
  obtain ⟨c1x, c1y, c1z, rfl⟩ := three_of hcs1
  have k1 := h1
  have lt1 : ∀ x ∈ p1, x.block < W.heap.size := by obtain ⟨m, hm⟩ := k1; exact DataW.trod_lt m _ _ _ hm
  obtain ⟨a1x, a1y, a1z, rfl, rfl, rfl, w1x, w1y, w1z⟩ : ∃ x y z, c1x = .int .i64 x ∧ c1y = .int .i64 y ∧ c1z = .int .i64 z ∧ (Lit.int .i64 x).wf = true ∧ (Lit.int .i64 y).wf = true ∧ (Lit.int .i64 z).wf = true := by
    obtain ⟨fuel, hf⟩ := h1
    obtain ⟨y0, y1, y2, fu, _, _, g0, g1, g2⟩ := Go.Deep.trod_struct3 Try.underlying25 hf
    have e0 : ∃ m, c1x = .int .i64 m ∧ (Lit.int .i64 m).wf = true := by
      have g : DataW.trod enc Try.prog W 0 (fun _ => true) true fu 23 [c1x] = some y0 := by simpa [Value.cells, show Try.prog.cellsOf 23 = 1 from by kernel_rfl] using g0
      obtain ⟨m, hm, _, hw⟩ := DataW.trod_int Try.underlying23 g
      exact ⟨m, by simpa using hm, hw⟩
    have e1 : ∃ m, c1y = .int .i64 m ∧ (Lit.int .i64 m).wf = true := by
      have g : DataW.trod enc Try.prog W 0 (fun _ => true) true fu 23 [c1y] = some y1 := by simpa [Value.cells, show Try.prog.cellsOf 23 = 1 from by kernel_rfl] using g1
      obtain ⟨m, hm, _, hw⟩ := DataW.trod_int Try.underlying23 g
      exact ⟨m, by simpa using hm, hw⟩
    have e2 : ∃ m, c1z = .int .i64 m ∧ (Lit.int .i64 m).wf = true := by
      have g : DataW.trod enc Try.prog W 0 (fun _ => true) true fu 3 [c1z] = some y2 := by simpa [Value.cells, show Try.prog.cellsOf 3 = 1 from by kernel_rfl] using g2
      obtain ⟨m, hm, _, hw⟩ := DataW.trod_int Try.underlying3 g
      exact ⟨m, by simpa using hm, hw⟩
    obtain ⟨x, ex, hx⟩ := e0
    obtain ⟨y, ey, hy⟩ := e1
    obtain ⟨z, ez, hz⟩ := e2
    exact ⟨x, y, z, ex, ey, ez, hx, hy, hz⟩
  clear hA0 hval0
  refine (walk a0 len0 cap0 z0 a1x a1y a1z W w0 w1x w1y w1z).mono fun e W' ⟨he, bel⟩ => ?_
  subst he
  exact ⟨_, rfl, _, _, _, [], _, [], hW', trodAll_mk1 (shut_bool Try.underlying4 _), (trodAll_cons_mk (Below.trod laidOut (by kernel_rfl) (of_decide_eq_true (by kernel_rfl)) k0 bel lt0) (trodAll_cons_mk (Below.trod laidOut (by kernel_rfl) (of_decide_eq_true (by kernel_rfl)) k1 bel lt1) trodAll_mk0)), rfl, bel.frame _, fun h => by cases h⟩

theorem over : Rows.probeHistogramsRow.holds Try.pinned (OpenSpec.ofChange Rows.probeHistogramsSpec) :=
  OpenClaim.holds_of_wide 3 Try.f3 rfl rfl rfl rfl rfl rfl rfl ⟨rfl, rfl, rfl, rfl, rfl⟩ rfl rfl rfl rfl rfl (by kernel_rfl) Try.func3 (by kernel_rfl)
    (of_decide_eq_true (by kernel_rfl)) (by unfold Func.isWrapper; first | (rw [if_pos (by decide +kernel)]; kernel_rfl) | (rw [if_neg (by decide +kernel)]; exact ⟨rfl, rfl⟩))
    (fun os started H enc _ => lifted os started H enc)

theorem proved : Rows.ProbeHistogramsSaid := over
#print axioms proved
end Go.Proofs.Ytkmfdggodinjaaa.probeHistograms
