/-
  regattalaw07.awake: the chapter's example comes out.
-/
import Derived.Test.YthingodgjeicpaaLawA
namespace Go.Proofs.Ythingodgjeicpaa
open Go.RowKit
set_option linter.unusedVariables false
set_option linter.unusedSimpArgs false

theorem Rd_lit (w : World) (k : IntKind) (E : TypeId) (l : List Int) (fr : Nat × Nat) (hl : l.length ≤ 140737488351232) : Rd (w.alloc (.cells (l.map (Value.int k)).toArray E fr)) k (some ⟨w.heap.size, 0, none⟩) l.length l := by
  refine ⟨rfl, hl, fun _ => ⟨w.heap.size, 0, rfl, by simp, fun j hj => ?_⟩⟩
  rw [cell_of_row _ _ _ _ _ _ (heap_alloc_new w _)]
  simp [List.getElem?_eq_getElem hj]
theorem Rd1 (w : World) (E : TypeId) (a : Int) : Rd (w.alloc (.cells #[.int .i64 a] E)) .i64 (some ⟨w.heap.size, 0, none⟩) 1 [a] := Rd_lit w .i64 E [a] (0, 0) (by simp)
theorem Rd2 (w : World) (E : TypeId) (a b : Int) : Rd (w.alloc (.cells #[.int .i64 a, .int .i64 b] E)) .i64 (some ⟨w.heap.size, 0, none⟩) 2 [a, b] := Rd_lit w .i64 E [a, b] (0, 0) (by simp)
theorem Rd3 (w : World) (E : TypeId) (a b c : Int) : Rd (w.alloc (.cells #[.int .i64 a, .int .i64 b, .int .i64 c] E)) .i64 (some ⟨w.heap.size, 0, none⟩) 3 [a, b, c] := Rd_lit w .i64 E [a, b, c] (0, 0) (by simp)
theorem A64_of {l : List Int} (h : ∀ v ∈ l, I64 v) : A64 l := fun i => by
  cases e : l[i]? with
  | none => unfold I64; simp
  | some v => exact h v (List.mem_of_getElem? e)
theorem below_alloc (w : World) (o : Obj) : Below w.heap.size w (w.alloc o) := (Below.refl _ _).alloc (Nat.le_refl _) _

theorem ex_net : NetOk [2, 1] [4294967296, 4294967296, 4294967296] [8589934592, 12884901888] 1 := by
  refine ⟨by decide, rfl, by decide, by decide, A64_of (fun v hv => ?_), A64_of (fun v hv => ?_)⟩
  · simp at hv; subst hv; unfold I64; omega
  · simp at hv; rcases hv with rfl | rfl <;> (unfold I64; omega)
theorem ex_grad : gradS [2, 1] [4294967296, 4294967296, 4294967296] [8589934592, 12884901888] [17179869184] 1 = [17179869184, 25769803776, 8589934592] := by decide +kernel
theorem ex_far : sqFar (val [2, 1] [4294967296, 4294967296, 4294967296] [8589934592, 12884901888] 1) [17179869184] 1 = 8589934592 := by decide +kernel

set_option maxHeartbeats 1600000 in
set_option maxRecDepth 100000 in
theorem awake_any (w : World) : Calls Try.prog 5 #[] w fun e w' => e = .returned (.bool true) ∧ Below w.heap.size w w' := by
  go_enter Try.func5, Try.ntmps5
  go_wp2_with fail
  generalize hw1 : w.alloc (.cells #[.int .i64 4294967296, .int .i64 4294967296, .int .i64 4294967296] 38) = wa
  have e1 : wa.heap.size = w.heap.size + 1 := by rw [← hw1]; simp
  have r1 : Rd wa .i64 (some ⟨w.heap.size, 0, none⟩) 3 [4294967296, 4294967296, 4294967296] := by rw [← hw1]; exact Rd3 _ _ _ _ _
  have b1 : Below w.heap.size w wa := by rw [← hw1]; exact below_alloc _ _
  clear hw1
  generalize hw2 : wa.alloc (.cells #[.int .i64 2, .int .i64 1] 3) = wb
  have e2 : wb.heap.size = w.heap.size + 1 + 1 := by rw [← hw2]; simp; omega
  have b2 : Below wa.heap.size wa wb := by rw [← hw2]; exact below_alloc _ _
  have r2 : Rd wb .i64 (some ⟨w.heap.size + 1, 0, none⟩) 2 [2, 1] := by rw [← hw2, ← e1]; exact Rd2 _ _ _ _
  clear hw2
  generalize hw3 : wb.alloc (.cells #[.int .i64 8589934592, .int .i64 12884901888] 38) = wc
  have e3 : wc.heap.size = w.heap.size + 1 + 1 + 1 := by rw [← hw3]; simp; omega
  have b3 : Below wb.heap.size wb wc := by rw [← hw3]; exact below_alloc _ _
  have r3 : Rd wc .i64 (some ⟨w.heap.size + 1 + 1, 0, none⟩) 2 [8589934592, 12884901888] := by rw [← hw3, ← e2]; exact Rd2 _ _ _ _
  clear hw3
  generalize hw4 : wc.alloc (.cells #[.int .i64 17179869184] 38) = wd
  have b4 : Below wc.heap.size wc wd := by rw [← hw4]; exact below_alloc _ _
  have r4 : Rd wd .i64 (some ⟨w.heap.size + 1 + 1 + 1, 0, none⟩) 1 [17179869184] := by rw [← hw4, ← e3]; exact Rd1 _ _ _
  clear hw4
  have HG := Lib.hid (Gradient_ok _ 2 2 [2, 1] _ 3 3 [4294967296, 4294967296, 4294967296] _ 2 2 [8589934592, 12884901888] _ 1 1 [17179869184] 1 wd ex_net ((r2.kept b3).kept b4) (((r1.kept b2).kept b3).kept b4) (r3.kept b4) r4 (by omega) (by omega) (by intro h; cases h) rfl (A64_of (fun v hv => by simp at hv; subst hv; unfold I64; omega)))
  rw [ex_grad, ex_far] at HG
  have Hbd : Hid (Below w.heap.size w wd) := Lib.hid (by (repeat first | assumption | exact Below.refl _ _ | refine Below.drew ?_ | refine Below.drewN ?_ _ | refine Below.alloc ?_ (by (first | omega | (simp; done) | (simp; omega))) _ | refine Below.setCell ?_ (by (first | omega | (simp; done) | (simp; omega))) _ | refine Below.trans ?_ (Below.mono (by assumption) (by (first | omega | (simp; done) | (simp; omega))))))
  clear r1 r2 r3 r4 b1 b2 b3 b4
  ((with_reducible refine (HG.out).mono ?_))
  rintro e w1 ⟨v, rfl, ho, hb⟩
  obtain ⟨a, c, rfl, _⟩ := ownsRow_form ho
  have hr := Ow.rd (n := 3) ho (by omega)
  obtain ⟨g, o, rfl, _, k0⟩ := hr.at (i := 0) (by omega)
  obtain ⟨g', o', e', _, k1⟩ := hr.at (i := 1) (by omega)
  cases e'
  obtain ⟨g', o', e', _, k2⟩ := hr.at (i := 2) (by omega)
  cases e'
  rw [Nat.add_zero] at k0
  simp only [List.getElem?_cons_zero, List.getElem?_cons_succ, Option.getD_some] at k0 k1 k2
  have Hb : Hid (Below w.heap.size w w1) := Lib.hid (Hbd.out.trans (hb.mono Hbd.out.size))
  clear ho hr hb
  simp only [List.length_cons, List.length_nil]
  go_wp2
  go_ret
  exact ⟨rfl, Hb.out⟩
end Go.Proofs.Ythingodgjeicpaa
