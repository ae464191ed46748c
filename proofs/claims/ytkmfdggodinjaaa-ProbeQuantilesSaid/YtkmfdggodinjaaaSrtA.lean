/-
  slices.SortFunc at []api.Fix, by the library's contract: the laying (numbers of the pr seat), its comparison, what it leaves. slices.Clone.
-/
import Derived.Test.YtkmfdggodinjaaaSrtP
import Derived.Shelf.SlSortCmp.NoneTotal
import Derived.Ground.SlsfProg
import Derived.Sort.OwnSortedInts
import Derived.Test.YtkmfdggodinjaaaMlpA
namespace Go.Proofs.Ytkmfdggodinjaaa
open Go.RowKit Go.Shelf Go.Sort
set_option linter.unusedVariables false
set_option linter.unusedSimpArgs false

def sortL_ren : Go.Shelf.Ren := ⟨fun | 6 => 37 | 15 => 66 | 14 => 65 | 28 => 97 | 29 => 98 | 20 => 89 | 21 => 90 | 22 => 91 | 23 => 92 | 24 => 93 | 25 => 94 | 26 => 95 | 27 => 96 | 46 => 110 | 47 => 111 | 48 => 112 | 49 => 113 | 50 => 114 | 57 => 117 | n => n, fun | 22 => 22 | 24 => 23 | 25 => 85 | 3 => 3 | 39 => 119 | 0 => 0 | 53 => 163 | 55 => 70 | 4 => 4 | 46 => 156 | 45 => 155 | 50 => 160 | 5 => 5 | 9 => 9 | 66 => 177 | 70 => 181 | 76 => 187 | 77 => 86 | n => n, fun | n => n⟩
theorem sortL : Go.Proofs.SlLaysF.n6 Try.prog sortL_ren := {
  mixed := by kernel_rfl
  f6 := ⟨Try.f37.name, by decide, Try.func37.trans (congrArg some (by kernel_rfl))⟩
  f14 := ⟨Try.f65.name, by decide, Try.func65.trans (congrArg some (by kernel_rfl))⟩
  f15 := Try.func66.trans (congrArg some (by kernel_rfl))
  f20 := ⟨Try.f89.name, by decide, Try.func89.trans (congrArg some (by kernel_rfl))⟩
  f21 := ⟨Try.f90.name, by decide, Try.func90.trans (congrArg some (by kernel_rfl))⟩
  f22 := ⟨Try.f91.name, by decide, Try.func91.trans (congrArg some (by kernel_rfl))⟩
  f23 := ⟨Try.f92.name, by decide, Try.func92.trans (congrArg some (by kernel_rfl))⟩
  f24 := ⟨Try.f93.name, by decide, Try.func93.trans (congrArg some (by kernel_rfl))⟩
  f25 := ⟨Try.f94.name, by decide, Try.func94.trans (congrArg some (by kernel_rfl))⟩
  f26 := ⟨Try.f95.name, by decide, Try.func95.trans (congrArg some (by kernel_rfl))⟩
  f27 := ⟨Try.f96.name, by decide, Try.func96.trans (congrArg some (by kernel_rfl))⟩
  f28 := Try.func97.trans (congrArg some (by kernel_rfl))
  f29 := Try.func98.trans (congrArg some (by kernel_rfl))
  f46 := ⟨Try.f110.name, by decide, Try.func110.trans (congrArg some (by kernel_rfl))⟩
  f47 := Try.func111.trans (congrArg some (by kernel_rfl))
  f48 := Try.func112.trans (congrArg some (by kernel_rfl))
  f49 := ⟨Try.f113.name, by decide, Try.func113.trans (congrArg some (by kernel_rfl))⟩
  f50 := ⟨Try.f114.name, by decide, Try.func114.trans (congrArg some (by kernel_rfl))⟩
  f57 := ⟨Try.f117.name, by decide, Try.func117.trans (congrArg some (by kernel_rfl))⟩
  t0 := Try.underlying0
  a0 := Try.isAgg0
  z0 := Try.sizeOf0
  v0 := Try.zeroValue0
  t3 := Try.underlying3
  a3 := Try.isAgg3
  z3 := Try.sizeOf3
  v3 := Try.zeroValue3
  t4 := Try.underlying4
  a4 := Try.isAgg4
  z4 := Try.sizeOf4
  v4 := Try.zeroValue4
  t5 := Try.underlying5
  a5 := Try.isAgg5
  z5 := Try.sizeOf5
  v5 := Try.zeroValue5
  t9 := Try.underlying9
  a9 := Try.isAgg9
  z9 := Try.sizeOf9
  v9 := Try.zeroValue9
  t22 := Try.underlying22
  a22 := Try.isAgg22
  z22 := Try.sizeOf22
  v22 := Try.zeroValue22
  a24 := Try.isAgg23
  z24 := Try.sizeOf23
  t25 := Try.underlying85
  a25 := Try.isAgg85
  z25 := Try.sizeOf85
  v25 := Try.zeroValue85
  t39 := Try.underlying119
  a39 := Try.isAgg119
  z39 := Try.sizeOf119
  v39 := Try.zeroValue119
  t45 := Try.underlying155
  a45 := Try.isAgg155
  z45 := Try.sizeOf155
  v45 := Try.zeroValue155
  t46 := Try.underlying156
  a46 := Try.isAgg156
  z46 := Try.sizeOf156
  v46 := Try.zeroValue156
  t50 := Try.underlying160
  a50 := Try.isAgg160
  z50 := Try.sizeOf160
  v50 := Try.zeroValue160
  t53 := Try.underlying163
  a53 := Try.isAgg163
  z53 := Try.sizeOf163
  v53 := Try.zeroValue163
  t55 := Try.underlying70
  a55 := Try.isAgg70
  z55 := Try.sizeOf70
  v55 := Try.zeroValue70
  t66 := Try.underlying177
  a66 := Try.isAgg177
  z66 := Try.sizeOf177
  v66 := Try.zeroValue177
  t70 := Try.underlying181
  a70 := Try.isAgg181
  z70 := Try.sizeOf181
  v70 := Try.zeroValue181
  t76 := Try.underlying187
  a76 := Try.isAgg187
  z76 := Try.sizeOf187
  v76 := Try.zeroValue187
  t77 := Try.underlying86
  a77 := Try.isAgg86
  z77 := Try.sizeOf86
  v77 := Try.zeroValue86 }

/-- The comparison of the closure. -/
def cmpQ (x y : Int) : Int := if x < y then -1 else if y < x then 1 else 0
theorem ltI (x y : Int) : ltOf cmpQ x y = decide (x < y) := by
  unfold ltOf cmpQ
  by_cases h1 : x < y
  · simp [h1]
  · by_cases h2 : y < x <;> simp [h1, h2]
theorem swoI : SWO (ltOf cmpQ) where
  irrefl x := by rw [ltI]; simp
  trans x y z h1 h2 := by rw [ltI] at *; simp at *; omega
  ntrans x y z h1 h2 := by rw [ltI] at *; simp at *; omega
theorem totI (x y : Int) (h1 : ltOf cmpQ x y = false) (h2 : ltOf cmpQ y x = false) : x = y := by rw [ltI] at *; simp at *; omega
theorem geI : (fun x y : Int => !ltOf cmpQ y x) = leI := by
  funext x y
  rw [ltI]
  unfold leI
  by_cases h : x ≤ y
  · have h' : ¬ y < x := by omega
    simp [h, h']
  · have h' : y < x := by omega
    simp [h, h']

set_option maxHeartbeats 1000000 in
theorem q1_any (x y : Int) (W : World) : Calls Try.prog 38 #[.int .i64 x, .int .i64 y] W fun e w' => e = .returned (.int .i64 (cmpQ x y)) ∧ ∃ q, w' = W.drewN q := by
  unfold cmpQ
  by_cases h1 : x < y
  · rw [if_pos h1]
    go_enter Try.func38, Try.ntmps38
    go_wp2
    go_ret
    exact ⟨rfl, 0, rfl⟩
  · rw [if_neg h1]
    by_cases h2 : y < x
    · rw [if_pos h2]
      go_enter Try.func38, Try.ntmps38
      go_wp2
      go_ret
      exact ⟨rfl, 0, rfl⟩
    · rw [if_neg h2]
      go_enter Try.func38, Try.ntmps38
      go_wp2
      go_ret
      exact ⟨rfl, 0, rfl⟩

theorem q1_reads (blk off size : Nat) (w : World) : CmpReads Try.prog 38 #[] (Value.int .i64) cmpQ blk off size w := fun _ _ _ _ x y => q1_any x y _

set_option maxHeartbeats 1000000 in
theorem Sort_any (v : Value) (l : List Int) (B : Nat) (w : World) (hO : Ow w B 23 .i64 v l) (h0 : 0 < l.length) (hl : l.length ≤ 65536) (hB : B ≤ w.heap.size) :
    Calls Try.prog 37 #[v, .func (.func 38) #[] #[]] w fun e w' => e = .returned (.tuple #[]) ∧ Ow w' B 23 .i64 v (sortI l) ∧ Below B w w' := by
  have hO' : w.ownsRow B 23 1 v l.length (l.map (Value.int .i64)) := hO
  rcases hO'.2 with ⟨_, h00⟩ | ⟨g, cap, cur, rfl, hg, hb, h1, h2, h3, h4⟩
  · omega
  rw [Nat.mul_one] at h4
  have hH := holds_of_blockI hb h4
  have eg : ∀ args w, (callFunc 38 args).run Try.prog w = .ok (.enter 38 args) w := enters_of Try.func38 (by kernel_rfl) rfl
  have hsz : l.toArray.size = l.length := by simp
  have hS := Any.slices_SortFunc_total sortL (Value.int .i64) (fun _ => rfl) cmpQ swoI 38 #[] g 0 cap l.toArray w eg (q1_reads g 0 l.toArray.size w).lays hH (lt_of_block hb) (by rw [hsz]; omega) totI
  rw [hsz, geI] at hS
  change Calls Try.prog 37 _ _ _ at hS
  refine hS.mono ?_
  rintro e w' ⟨rfl, n, os, rfl⟩
  have hlen : (sortI l).length = l.length := sortI_len l
  refine ⟨rfl, ?_, ?_⟩
  · have := ownsRow_sortedI (w := w) (n := n) (os := os) (ts := sortI l) hlen hg hb h1 h2 (by simpa using h3)
    unfold Ow
    rw [hlen]
    exact this
  · exact Below.grownOf (Below.refl B w) hO' (grownBy_sortedI (w := w) (g := g) (n := n) (os := os) (sortI l).toArray) hB

set_option maxHeartbeats 400000 in
theorem Clone_any (a : Option Addr) (n c : Nat) (l : List Int) (w : World) (h : Rd w .i64 a n l) (hn9 : n ≤ 1000000000) (hnone : a = none → c = 0) :
    Calls Try.prog 36 #[.slice a n c] w fun e w' => ∃ v, e = .returned v ∧ Ow w' w.heap.size 23 .i64 v l ∧ Below w.heap.size w w' := by
  cases a with
  | none =>
    have hn : n = 0 := by
      rcases Nat.eq_zero_or_pos n with h0 | h0
      · exact h0
      · obtain ⟨b, o', e, _⟩ := h.2.2 h0
        cases e
    subst hn
    obtain rfl := hnone rfl
    have hl0 : l = [] := List.eq_nil_of_length_eq_zero h.1
    subst hl0
    have hnn := fun (w : World) (a : Option Addr) (n c : Nat) => Lib.run_eql_slice_nil (P := Try.prog) w 22 23 a n c 0 0 Try.underlying22
    clear h
    go_enter Try.func36, Try.ntmps36
    go_wp2
    go_ret
    exact ⟨_, rfl, World.ownsRow_nil _ _ _ _, Below.refl _ _⟩
  | some ad =>
    have hnn := fun (w : World) (a : Option Addr) (n c : Nat) => Lib.run_eql_slice_nil (P := Try.prog) w 22 23 a n c 0 0 Try.underlying22
    have H := Lib.hid h; clear h
    go_enter Try.func36, Try.ntmps36
    go_wp2_with (at_builtin; refine wpl_appN eFs rfl _ _ rfl w.heap.size _ 0 [] rfl (World.ownsRow_lit _ #[] 0 (Nat.le_refl _) (by unfold maxLen; omega) rfl) .i64 _ _ _ l rfl ?c1 ?c2 ?c3 ?c4 ?c5 ?_)
    case c1 => exact H.out.kept ((Below.refl _ _).alloc (Nat.le_refl _) _)
    case c2 => intro h; cases h
    case c3 => have := H.out.2.1; unfold maxLen; omega
    case c4 => have := H.out.2.1; omega
    case c5 => simp
    intro v' w' hown hg
    have hb := Below.grownOf ((Below.refl w.heap.size w).alloc (Nat.le_refl _) (.cells #[] 23)) (World.ownsRow_lit (base := w.heap.size) (size := 1) w #[] 0 (Nat.le_refl _) (by unfold maxLen; omega) rfl) hg (by simp)
    have Hb := Lib.hid hb
    have Ho := Lib.hid hown
    clear hb hown hg
    go_wp2
    go_ret
    exact ⟨_, rfl, by have := Ho.out; have h1 := H.out.1; subst h1; simpa [Ow] using this, Hb.out⟩
end Go.Proofs.Ytkmfdggodinjaaa
