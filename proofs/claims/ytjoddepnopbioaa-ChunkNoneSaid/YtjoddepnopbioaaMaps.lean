/-
  Maps, as lists of pairs (each key once, in whatever order): what the operations do. No function of the program is named.
-/
import Derived.Test.YtjoddepnopbioaaBase
import Derived.Maps.OwnSet
import Derived.Maps.Keyed
namespace Go.Proofs.Ytjoddepnopbioaa
open Go.RowKit Go.Maps Go.WideElems Go.WideShapes
set_option linter.unusedVariables false
set_option linter.unusedSimpArgs false
open Go.ChangeMaps (notKey putKey delKey setBlock heap_setBlock_same heap_setBlock_other)

def hR (v : Value) : Option (DataW Value × List MemPlace) := some (.held v, [])
def kv (e : MapEntry) : Value × Value := (e.key, e.val)

/-- Block b is a map that holds just these. -/
def MapIs (P : Program) (k : TypeId) (w : World) (b : Nat) (L : List (Value × Value)) : Prop :=
  ∃ es clock, w.heap[b]? = some (.map es clock) ∧ Fit P k hR es clock ∧ (es.toList.map kv).Perm L

section
variable {P : Program} {k : TypeId} {w : World} {b : Nat} {L : List (Value × Value)}

theorem MapIs.made (P : Program) (k : TypeId) (w : World) : MapIs P k (w.alloc (.map #[] 0)) w.heap.size [] :=
  ⟨#[], 0, (MapKept.heap_alloc w _).1, ⟨by simp, MapKept.stamped_empty 0, by simp⟩, by simp⟩

theorem MapIs.lt (h : MapIs P k w b L) : b < w.heap.size := by
  obtain ⟨es, clock, hb, _⟩ := h
  exact (Array.getElem?_eq_some_iff.1 hb).1

theorem MapIs.kept {w' : World} (h : MapIs P k w b L) (hb : w'.heap[b]? = w.heap[b]?) : MapIs P k w' b L := by
  obtain ⟨es, clock, h1, h2⟩ := h
  exact ⟨es, clock, hb.trans h1, h2⟩

theorem MapIs.perm {L' : List (Value × Value)} (h : MapIs P k w b L) (hp : L.Perm L') : MapIs P k w b L' := by
  obtain ⟨es, clock, h1, h2, h3⟩ := h
  exact ⟨es, clock, h1, h2, h3.trans hp⟩

theorem MapIs.apart (h : MapIs P k w b L) (K : Keyed P k) : L.Pairwise (fun p q => p.1 ≠ q.1) := by
  obtain ⟨es, clock, h1, F, h3⟩ := h
  refine (h3.pairwise_iff (fun {a b} (h : a.1 ≠ b.1) => h.symm)).1 ?_
  rw [List.pairwise_map]
  have h4 := fit_apart K F
  rw [List.pairwise_map] at h4
  refine List.Pairwise.imp_of_mem ?_ h4
  intro x y hx hy hne e
  obtain ⟨z, hz⟩ := F.reads x hx
  obtain ⟨z', hz'⟩ := F.reads y hy
  have e1 := rd_key hz
  have e2 := rd_key hz'
  have e' : x.key = y.key := e
  rw [e', e2] at e1
  apply hne
  simp only [rg, hz, hz', Option.getD_some]
  exact (Option.some.inj e1).symm

theorem MapIs.keys (h : MapIs P k w b L) : ∀ p ∈ L, ∃ l, keyOf P k p.1 = some l := by
  obtain ⟨es, clock, h1, F, h3⟩ := h
  intro p hp
  obtain ⟨x, hx, rfl⟩ := List.mem_map.1 (h3.mem_iff.2 hp)
  exact F.keys x hx

theorem MapIs.size (h : MapIs P k w b L) : L.length ≤ maxLen := by
  obtain ⟨es, clock, h1, F, h3⟩ := h
  have := h3.length_eq
  have h2 := F.size
  simp at this
  omega

noncomputable def back (P : Program) (k : TypeId) (p : Lit × DataW Value) : Value × Value :=
  (@Classical.epsilon Value ⟨undef⟩ (fun v => keyOf P k v = some p.1), match p.2 with | .held v => v | _ => undef)

theorem back_rg (K : Keyed P k) {x : MapEntry} {l : Lit} (h : keyOf P k x.key = some l) : back P k (rg P k hR x) = kv x := by
  have e : rg P k hR x = (l, .held x.val) := by simp [rg, rd, hR, h]
  rw [e]
  have h2 : keyOf P k (@Classical.epsilon Value ⟨undef⟩ (fun v => keyOf P k v = some l)) = some l := @Classical.epsilon_spec Value (fun v => keyOf P k v = some l) ⟨_, h⟩
  simp only [back, kv]
  rw [K.inj h2 h]

theorem rg_form {x : MapEntry} {l : Lit} (h : keyOf P k x.key = some l) : rg P k hR x = (l, .held x.val) := by
  simp [rg, rd, hR, h]

theorem map_back (K : Keyed P k) (es : List MapEntry) (h : ∀ x ∈ es, ∃ l, keyOf P k x.key = some l) : (es.map (rg P k hR)).map (back P k) = es.map kv := by
  rw [List.map_map]
  apply List.map_congr_left
  intro x hx
  obtain ⟨l, hl⟩ := h x hx
  exact back_rg K hl

theorem perm_of_sorted (K : Keyed P k) {es es' : Array MapEntry} {cl cl' : Nat} (F : Fit P k hR es cl) (F' : Fit P k hR es' cl') {A : List (Lit × DataW Value)}
    (h : (es'.toList.map (rg P k hR)).foldr DataW.insert [] = A) (B : List (Value × Value)) (hA : (A.map (back P k)).Perm B) : (es'.toList.map kv).Perm B := by
  rw [← map_back K es'.toList F'.keys]
  refine List.Perm.trans ?_ hA
  rw [← h]
  exact (sorted_perm _).symm.map _

theorem filter_out (K : Keyed P k) {key : Value} {kl : Lit} (hkey : keyOf P k key = some kl) (es : List MapEntry) (h : ∀ x ∈ es, ∃ l, keyOf P k x.key = some l) (hne : ∀ x ∈ es, x.key ≠ key) : (es.map (rg P k hR)).filter (notKey kl) = es.map (rg P k hR) := by
  rw [List.filter_eq_self]
  intro p hp
  obtain ⟨x, hx, rfl⟩ := List.mem_map.1 hp
  obtain ⟨l, hl⟩ := h x hx
  rw [rg_form hl, notKey_iff (K.key hkey)]
  intro e
  have e' : l = kl := e
  subst e'
  exact hne x hx (K.inj hl hkey)

theorem run_look_hit {t e : TypeId} (h : MapIs P k w b L) (c : Bool) (K : Keyed P k) (ht : P.underlying t = some (.map k e)) {z : Value} (hz : (zeroValue e).run P w = .ok z w) {key v : Value} {kl : Lit} (hkey : keyOf P k key = some kl) (hv : (key, v) ∈ L) :
    (Instr.lookup t (.map (some b)) key c).run P w = .ok (if c then .tuple #[v, .bool true] else v) w := by
  have hap := h.apart K
  obtain ⟨es, clock, hb, F, hp⟩ := h
  rcases fit_look c K ht hz hb F hkey with ⟨_, hno, _⟩ | ⟨e0, y, h0, hk0, hrun, _⟩
  · obtain ⟨x, hx, e⟩ := List.mem_map.1 (hp.mem_iff.2 hv)
    simp only [kv, Prod.mk.injEq] at e
    exact absurd e.1 (hno x hx)
  · have h1 : (key, e0.val) ∈ L := hp.mem_iff.1 (List.mem_map.2 ⟨e0, h0, by simp [kv, hk0]⟩)
    have : e0.val = v := by
      by_cases e : e0.val = v
      · exact e
      · exfalso
        obtain ⟨i, hi, hie⟩ := List.mem_iff_getElem.1 hv
        obtain ⟨j, hj, hje⟩ := List.mem_iff_getElem.1 h1
        have hij : i ≠ j := by
          rintro rfl
          rw [hie] at hje
          simp only [Prod.mk.injEq, true_and] at hje
          exact e hje.symm
        rcases Nat.lt_or_gt_of_ne hij with hlt | hlt
        · exact List.pairwise_iff_getElem.1 hap i j hi hj hlt (by rw [hie, hje])
        · exact List.pairwise_iff_getElem.1 hap j i hj hi hlt (by rw [hie, hje])
    rw [this] at hrun
    exact hrun

theorem run_look_miss {t e : TypeId} (h : MapIs P k w b L) (c : Bool) (K : Keyed P k) (ht : P.underlying t = some (.map k e)) {z : Value} (hz : (zeroValue e).run P w = .ok z w) {key : Value} {kl : Lit} (hkey : keyOf P k key = some kl) (hno : ∀ p ∈ L, p.1 ≠ key) :
    (Instr.lookup t (.map (some b)) key c).run P w = .ok (if c then .tuple #[z, .bool false] else z) w := by
  obtain ⟨es, clock, hb, F, hp⟩ := h
  rcases fit_look c K ht hz hb F hkey with ⟨hrun, _, _⟩ | ⟨e0, y, h0, hk0, hrun, _⟩
  · exact hrun
  · exact absurd hk0 (hno (kv e0) (hp.mem_iff.1 (List.mem_map.2 ⟨e0, h0, rfl⟩)))

theorem run_len_map {t e : TypeId} (h : MapIs P k w b L) (ht : P.underlying t = some (.map k e)) (ty : TypeId) : (Builtin.len_ #[t] ty #[.map (some b)]).run P w = .ok (.int .i64 L.length) w := by
  obtain ⟨es, clock, hb, F, hp⟩ := h
  have := hp.length_eq
  simp at this
  simp [Builtin.len_, run_underlying ht, MapKept.run_getObj_map hb, goInt, Result.andThen, this]

theorem run_put_new {t e : TypeId} (h : MapIs P k w b L) (K : Keyed P k) (ht : P.underlying t = some (.map k e)) (hn : L.length < maxLen) {key val : Value} {kl : Lit} (hkey : keyOf P k key = some kl) (hno : ∀ p ∈ L, p.1 ≠ key) :
    ∃ w', (Instr.mapUpdate t (.map (some b)) key val).run P w = .ok () w' ∧ MapIs P k w' b ((key, val) :: L) ∧ w.grownBy w' (some b) := by
  obtain ⟨es, clock, hb, F, hp⟩ := h
  have hlen := hp.length_eq
  simp at hlen
  obtain ⟨es', clock', hrun, F', hput, _⟩ := fit_store (R' := hR) K ht hb F (by omega) (fun _ _ _ _ hz => hz) hkey (val := val) rfl
  refine ⟨_, hrun, ⟨es', clock', heap_setBlock_same hb _, F', perm_of_sorted K F F' hput _ ?_⟩, ⟨rfl, rfl, rfl, by simp [setBlock], fun i _ hi => heap_setBlock_other hb _ (fun e => hi (by rw [e]))⟩⟩
  have hno' : ∀ x ∈ es.toList, x.key ≠ key := fun x hx => hno (kv x) (hp.mem_iff.1 (List.mem_map.2 ⟨x, hx, rfl⟩))
  have e2 : (putKey kl (DataW.held val) ((es.toList.map (rg P k hR)).foldr DataW.insert [])).Perm ((kl, .held val) :: es.toList.map (rg P k hR)) := by
    unfold putKey
    refine (insert_perm _ _).trans (List.Perm.cons _ ?_)
    refine ((sorted_perm (es.toList.map (rg P k hR))).filter (notKey kl)).trans ?_
    rw [filter_out K hkey _ F.keys hno']
  refine (e2.map (back P k)).trans ?_
  rw [List.map_cons, map_back K _ F.keys]
  have e3 : back P k (kl, DataW.held val) = (key, val) := by
    have h2 : keyOf P k (@Classical.epsilon Value ⟨undef⟩ (fun v => keyOf P k v = some kl)) = some kl := @Classical.epsilon_spec Value (fun v => keyOf P k v = some kl) ⟨_, hkey⟩
    simp only [back]
    rw [K.inj h2 hkey]
  rw [e3]
  exact List.Perm.cons _ hp

theorem run_put_old {t e : TypeId} {key v0 : Value} (h : MapIs P k w b ((key, v0) :: L)) (K : Keyed P k) (ht : P.underlying t = some (.map k e)) (hn : L.length + 1 < maxLen) {val : Value} {kl : Lit} (hkey : keyOf P k key = some kl) :
    ∃ w', (Instr.mapUpdate t (.map (some b)) key val).run P w = .ok () w' ∧ MapIs P k w' b ((key, val) :: L) ∧ w.grownBy w' (some b) := by
  have hap := h.apart K
  obtain ⟨es, clock, hb, F, hp⟩ := h
  have hlen := hp.length_eq
  simp at hlen
  obtain ⟨es', clock', hrun, F', hput, _⟩ := fit_store (R' := hR) K ht hb F (by omega) (fun _ _ _ _ hz => hz) hkey (val := val) rfl
  refine ⟨_, hrun, ⟨es', clock', heap_setBlock_same hb _, F', perm_of_sorted K F F' hput _ ?_⟩, ⟨rfl, rfl, rfl, by simp [setBlock], fun i _ hi => heap_setBlock_other hb _ (fun e => hi (by rw [e]))⟩⟩
  have e3 : ∀ v, back P k (kl, DataW.held v) = (key, v) := by
    intro v
    have h2 : keyOf P k (@Classical.epsilon Value ⟨undef⟩ (fun v => keyOf P k v = some kl)) = some kl := @Classical.epsilon_spec Value (fun v => keyOf P k v = some kl) ⟨_, hkey⟩
    simp only [back]
    rw [K.inj h2 hkey]
  have e2 : (putKey kl (DataW.held val) ((es.toList.map (rg P k hR)).foldr DataW.insert [])).Perm ((kl, .held val) :: (es.toList.map (rg P k hR)).filter (notKey kl)) := by
    unfold putKey
    refine (insert_perm _ _).trans (List.Perm.cons _ ?_)
    exact (sorted_perm (es.toList.map (rg P k hR))).filter (notKey kl)
  refine (e2.map (back P k)).trans ?_
  rw [List.map_cons, e3]
  refine List.Perm.cons _ ?_
  -- what is left at the other keys
  have hfk : ((es.toList.map (rg P k hR)).filter (notKey kl)).map (back P k) = (es.toList.map kv).filter (fun p => @decide (p.1 ≠ key) (Classical.propDecidable _)) := by
    have gen : ∀ (A : List (Lit × DataW Value)) (f : Lit × DataW Value → Bool) (g : Value × Value → Bool), (∀ p ∈ A, f p = g (back P k p)) → (A.filter f).map (back P k) = (A.map (back P k)).filter g := by
      intro A f g
      induction A with
      | nil => intro _; rfl
      | cons p A ih =>
        intro hA
        have h1 := hA p (by simp)
        have h2 := ih (fun q hq => hA q (by simp [hq]))
        simp only [List.filter_cons, List.map_cons]
        rw [← h1]
        split
        · rw [List.map_cons, h2]
        · exact h2
    rw [← map_back K _ F.keys]
    apply gen
    intro p hpm
    obtain ⟨x, hx, rfl⟩ := List.mem_map.1 hpm
    obtain ⟨l, hl⟩ := F.keys x hx
    rw [back_rg K hl, rg_form hl]
    simp only [kv]
    by_cases e : x.key = key
    · have : l = kl := by rw [e, hkey] at hl; exact (Option.some.inj hl).symm
      subst this
      have h3 : notKey l ((l, DataW.held x.val) : Lit × DataW Value) = false := by
        cases h4 : notKey l ((l, DataW.held x.val) : Lit × DataW Value)
        · rfl
        · exact absurd rfl ((notKey_iff (K.key hkey)).1 h4)
      rw [h3]
      symm
      exact @decide_eq_false _ (Classical.propDecidable _) (fun h5 => h5 e)
    · have h3 : notKey kl ((l, DataW.held x.val) : Lit × DataW Value) = true := (notKey_iff (K.key hkey)).2 (by
        intro e1
        have e1' : l = kl := e1
        subst e1'
        exact e (K.inj hl hkey))
      rw [h3]
      symm
      exact @decide_eq_true _ (Classical.propDecidable _) e
  rw [hfk]
  refine (hp.filter _).trans ?_
  rw [List.filter_cons]
  rw [if_neg (by simp)]
  rw [List.filter_eq_self.2]
  intro p hpm
  have := List.pairwise_cons.1 hap
  simpa using (this.1 p hpm).symm

/-! ### at the operation -/
variable {ops : Array Oper} {rest : List Oper} {o : Oper} {a : Act} {Q : Exit → Act → World → Prop}

theorem wpl_look_hit (h : MapIs P k w b L) (K : Keyed P k) (hg : o.guard = none) (m x : Operand) (t e : TypeId) (hop : o.op = Op.lookup t m x true) (ht : P.underlying t = some (.map k e)) {z : Value} (hz : (zeroValue e).run P w = .ok z w)
    (key v : Value) (kl : Lit) (hkey : keyOf P k key = some kl) (hv : (key, v) ∈ L) (hm : a.eval m = .map (some b)) (hx : a.eval x = key)
    (hK : wpList P ops Q rest (a.put o.dst (.tuple #[v, .bool true])) w) : wpList P ops Q (o :: rest) a w := by
  refine wpList_plain hg fun K' hK' => ?_
  have hrun := run_look_hit h true K ht hz hkey hv
  unfold Oper.wp
  simp [execOp, hop, hm, hx, hrun, Result.andThen]
  exact hK' _ _ hK

theorem wpl_look_miss (h : MapIs P k w b L) (K : Keyed P k) (hg : o.guard = none) (m x : Operand) (t e : TypeId) (hop : o.op = Op.lookup t m x true) (ht : P.underlying t = some (.map k e)) {z : Value} (hz : (zeroValue e).run P w = .ok z w)
    (key : Value) (kl : Lit) (hkey : keyOf P k key = some kl) (hno : ∀ p ∈ L, p.1 ≠ key) (hm : a.eval m = .map (some b)) (hx : a.eval x = key)
    (hK : wpList P ops Q rest (a.put o.dst (.tuple #[z, .bool false])) w) : wpList P ops Q (o :: rest) a w := by
  refine wpList_plain hg fun K' hK' => ?_
  have hrun := run_look_miss h true K ht hz hkey hno
  unfold Oper.wp
  simp [execOp, hop, hm, hx, hrun, Result.andThen]
  exact hK' _ _ hK

theorem op_put_new {K' : Act → World → Prop} (h : MapIs P k w b L) (K : Keyed P k) (m x v : Operand) (t e : TypeId) (hop : o.op = Op.mapUpdate t m x v) (ht : P.underlying t = some (.map k e)) (hn : L.length < maxLen)
    (key val : Value) (kl : Lit) (hkey : keyOf P k key = some kl) (hno : ∀ p ∈ L, p.1 ≠ key) (hm : a.eval m = .map (some b)) (hx : a.eval x = key) (hv : a.eval v = val)
    (hK : ∀ w', MapIs P k w' b ((key, val) :: L) → w.grownBy w' (some b) → K' (a.put o.dst undef) w') : o.wp P a w K' Q := by
  obtain ⟨w', hrun, h1, h2⟩ := run_put_new h K ht hn (val := val) hkey hno
  unfold Oper.wp
  simp [execOp, hop, hm, hx, hv, hrun, Result.andThen, Oper.upon]
  exact hK w' h1 h2

theorem op_put_old {K' : Act → World → Prop} {key v0 : Value} (h : MapIs P k w b ((key, v0) :: L)) (K : Keyed P k) (m x v : Operand) (t e : TypeId) (hop : o.op = Op.mapUpdate t m x v) (ht : P.underlying t = some (.map k e)) (hn : L.length + 1 < maxLen)
    (val : Value) (kl : Lit) (hkey : keyOf P k key = some kl) (hm : a.eval m = .map (some b)) (hx : a.eval x = key) (hv : a.eval v = val)
    (hK : ∀ w', MapIs P k w' b ((key, val) :: L) → w.grownBy w' (some b) → K' (a.put o.dst undef) w') : o.wp P a w K' Q := by
  obtain ⟨w', hrun, h1, h2⟩ := run_put_old h K ht hn (val := val) hkey
  unfold Oper.wp
  simp [execOp, hop, hm, hx, hv, hrun, Result.andThen, Oper.upon]
  exact hK w' h1 h2

theorem wpl_put_new (h : MapIs P k w b L) (K : Keyed P k) (hg : o.guard = none) (m x v : Operand) (t e : TypeId) (hop : o.op = Op.mapUpdate t m x v) (ht : P.underlying t = some (.map k e)) (hn : L.length < maxLen)
    (key val : Value) (kl : Lit) (hkey : keyOf P k key = some kl) (hno : ∀ p ∈ L, p.1 ≠ key) (hm : a.eval m = .map (some b)) (hx : a.eval x = key) (hv : a.eval v = val)
    (hK : ∀ w', MapIs P k w' b ((key, val) :: L) → w.grownBy w' (some b) → wpList P ops Q rest (a.put o.dst undef) w') : wpList P ops Q (o :: rest) a w :=
  wpl_of_op hg (op_put_new h K m x v t e hop ht hn key val kl hkey hno hm hx hv hK)
end
end Go.Proofs.Ytjoddepnopbioaa
