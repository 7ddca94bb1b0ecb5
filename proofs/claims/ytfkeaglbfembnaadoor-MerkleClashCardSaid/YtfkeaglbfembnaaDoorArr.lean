/- Memory in a walk: what a block holds behind allocations, stores and calls; arrays as functions. Nothing here hangs on the program. -/
import Derived.WalkKit
import Derived.Deep.LoopGhost
import Derived.Deep.QuietTactic
import Derived.Deep.Draws
import Derived.BigQuiet
import Derived.StillTailTactics
import Derived.Laws.Rows
import Derived.Laws.Tables
import Derived.OrdersHeld
import Derived.ChangeKeysEq
namespace Go.Proofs.YtfkeaglbfembnaaDoor.Arr
open Go Go.RowKit
set_option linter.unusedVariables false
set_option linter.unusedSimpArgs false

/-- An array's cells, told by a function. -/
def arr (n : Nat) (g : Nat → Value) : Array Value := Array.ofFn (n := n) fun i => g i.val

theorem arr_size (n : Nat) (g : Nat → Value) : (arr n g).size = n := by simp [arr]
theorem arr_get (n : Nat) (g : Nat → Value) (i : Nat) (h : i < n) : (arr n g)[i]? = some (g i) := by simp [arr, h]
def upd (g : Nat → Value) (i : Nat) (v : Value) : Nat → Value := fun j => if j = i then v else g j
theorem arr_set (n : Nat) (g : Nat → Value) (i : Nat) (v : Value) : (arr n g).setIfInBounds i v = arr n (upd g i v) := by
  apply Array.ext_getElem?
  intro j
  rw [Array.getElem?_setIfInBounds, arr_size]
  by_cases h : j < n
  · rw [arr_get n _ j h, arr_get n _ j h]
    by_cases e : i = j
    · subst e; simp [h, upd]
    · have e' : ¬ j = i := fun h => e h.symm
      simp [e, e', upd]
  · have hn : ∀ g, (arr n g)[j]? = none := fun g => by simp [arr, h]
    rw [hn, hn]
    by_cases e : i = j
    · subst e; simp [h]
    · simp [e]
theorem arr_congr (n : Nat) (g h : Nat → Value) (e : ∀ i, i < n → g i = h i) : arr n g = arr n h := by
  apply Array.ext
  · simp [arr]
  · intro j h1 h2; have h3 : j < n := by simpa [arr] using h1
    simpa [arr] using e j h3
theorem arr_one (n : Nat) (g : Nat → Value) (h : ∀ i, i < n → (g i).oneCell' = true) : (arr n g).all (·.oneCell') = true := by
  rw [Array.all_eq_true]
  intro i hi
  have h3 : i < n := by simpa [arr] using hi
  simpa [arr] using h i h3
theorem arr_inj (n : Nat) (g h : Nat → Value) (e : arr n g = arr n h) : ∀ i, i < n → g i = h i := by
  intro i hi
  have := arr_get n g i hi
  rw [e, arr_get n h i hi] at this
  exact (Option.some.inj this).symm

def isRowD (d : TypeDesc) : Bool := match d with | .struct _ | .array _ _ => true | _ => false
/-- A type whose values are rows of n cells (an array, a struct) ¦ one cell. -/
def RowTy (P : Program) (ty : TypeId) (n : Nat) : Prop := ∃ d, P.underlying ty = some d ∧ isRowD d = true ∧ (P.info? ty).map (·.size) = some n
def CellTy (P : Program) (ty : TypeId) : Prop := ∃ d, P.underlying ty = some d ∧ isRowD d = false ∧ (P.info? ty).map (·.size) = some 1

section
variable {P : Program}
theorem list_want {ops : Array Oper} {Q : Exit → Act → World → Prop} {a : Act} {w : World} {rest : List Oper} {o : Oper} (hw : Region.wanted o (yielded ops a.tmps) = true)
    (h : ∀ K : Act → World → Prop, (∀ a w, wpList P ops Q rest a w → K a w) → o.wp P a w K Q) : wpList P ops Q (o :: rest) a w :=
  wpList_step fun K hK => by rw [if_pos hw]; exact h K hK
theorem run_row {ty : TypeId} {n : Nat} (hr : RowTy P ty n) {w : World} {g : Nat} {cs : Array Value} {t : TypeId} {fr : Nat × Nat} (hg : w.heap[g]? = some (.cells cs t fr)) (hn : cs.size = n) : (loadVar ty ⟨g, 0, none⟩).run P w = .ok (.agg cs) w := by
  obtain ⟨d, hu, hd, hi⟩ := hr
  exact run_loadVar_row (P := P) w g t ty cs fr d hg hu (by cases d <;> simp_all [isRowD]) (by rw [hi, hn])
theorem region_tail {id : Nat} {Q : Exit → Act → World → Prop} {a : Act} {w : World} {l : List Oper} (n : Nat) (hm : P.follows .mixedOrders = true) (hB : Region.lexTailB .any l.toArray n = true)
    {h1 h2 : List Oper} (e1 : l.take n = h1) (e2 : l.drop n = h2)
    (h : wpStill P l.toArray w.drew (fun a' => wpList P l.toArray Q h2 a' w.drew) h1 a) : (Code.region id l.toArray true).wp P Q a w := by
  subst e1; subst e2
  exact wp_region_still_tail n hm hB h
/-- A whole array or struct is loaded out of a block. -/
theorem arm_load {ops : Array Oper} {Q : Exit → Act → World → Prop} {rest : List Oper} {o : Oper} {a : Act} {w : World} {ty : TypeId} {n : Nat} (hr : RowTy P ty n) {x : Operand} (ho : o.op = .load ty x)
    (h : Region.wanted o (yielded ops a.tmps) = true ∧ ∃ g cs t fr, a.eval x = .pointer (some ⟨g, 0, none⟩) ∧ w.heap[g]? = some (.cells cs t fr) ∧ cs.size = n ∧ wpList P ops Q rest (a.put o.dst (.agg cs)) w) : wpList P ops Q (o :: rest) a w := by
  obtain ⟨hw, g, cs, t, fr, hx, hg, hs, h⟩ := h
  obtain ⟨d, hu, hd, hi⟩ := hr
  exact list_want hw fun _ hK => wp_load_row ty x ho g hx t cs fr d hg hu (by cases d <;> simp_all [isRowD]) (by rw [hi, hs]) (hK _ _ h)
/-- A whole array or struct is stored into a block. -/
theorem arm_store {ops : Array Oper} {Q : Exit → Act → World → Prop} {rest : List Oper} {o : Oper} {a : Act} {w : World} {ty : TypeId} {n : Nat} (hr : RowTy P ty n)
    {x y : Operand} (ho : o.op = .store ty x y)
    (h : Region.wanted o (yielded ops a.tmps) = true ∧ ∃ g cs old t, a.eval x = .pointer (some ⟨g, 0, none⟩) ∧ a.eval y = .agg cs ∧ w.heap[g]? = some (.cells old t (0, 0)) ∧ cs.size = n ∧ old.size = n ∧ cs.all (·.oneCell') = true ∧ wpList P ops Q rest (a.put o.dst undef) (w.setRow g cs)) : wpList P ops Q (o :: rest) a w := by
  obtain ⟨hw, g, cs, old, t, hx, hy, hg, hs, ho2, h1, h⟩ := h
  obtain ⟨d, hu, hd, hi⟩ := hr
  exact list_want hw fun _ hK => wp_store_row ty x y ho g cs hx hy t old hg (by rw [hi, hs]) (by rw [ho2, hs]) h1 (hK _ _ h)
/-- One cell is loaded. -/
theorem arm_load1 {ops : Array Oper} {Q : Exit → Act → World → Prop} {rest : List Oper} {o : Oper} {a : Act} {w : World} {ty : TypeId} (hr : CellTy P ty) {x : Operand} (ho : o.op = .load ty x)
    (h : Region.wanted o (yielded ops a.tmps) = true ∧ ∃ g i c t fr v, a.eval x = .pointer (some ⟨g, i, none⟩) ∧ w.heap[g]? = some (.cells c t fr) ∧ c[i]? = some v ∧ wpList P ops Q rest (a.put o.dst v) w) : wpList P ops Q (o :: rest) a w := by
  obtain ⟨hw, g, i, c, t, fr, v, hx, hg, hc, h⟩ := h
  obtain ⟨d, hu, hd, _⟩ := hr
  refine list_want hw fun _ hK => ?_
  have hagg : (isAgg ty).run P w = .ok false w := by
    unfold isAgg
    rw [Sem.run_bind, run_underlying hu w]
    cases d <;> simp_all [isRowD]
  have hl : (load ⟨g, i, none⟩).run P w = .ok v w := by
    have hcell := cell_of_row w g i c t fr hg
    rw [hc] at hcell
    simp only [load, Sem.run, hcell]
  have hv : (loadVar ty ⟨g, i, none⟩).run P w = .ok v w := by
    unfold loadVar
    rw [Sem.run_bind, hagg]
    simp only [Result.andThen_ok, Bool.false_eq_true, if_false]
    exact hl
  unfold Oper.wp execOp
  simp only [ho, hx, Instr.loadAt, Instr.sureAddr, Sem.run_bind, Sem.run_pure, Result.andThen_ok, hv]
  exact hK _ _ h
/-- One cell is stored. -/
theorem arm_store1 {ops : Array Oper} {Q : Exit → Act → World → Prop} {rest : List Oper} {o : Oper} {a : Act} {w : World} {ty : TypeId} (hr : CellTy P ty) {x y : Operand} (ho : o.op = .store ty x y)
    (h : Region.wanted o (yielded ops a.tmps) = true ∧ ∃ g i c t v, a.eval x = .pointer (some ⟨g, i, none⟩) ∧ a.eval y = v ∧ w.heap[g]? = some (.cells c t (0, 0)) ∧ i < c.size ∧ v.oneCell' = true ∧ wpList P ops Q rest (a.put o.dst undef) (w.setCell ⟨g, i, none⟩ v)) : wpList P ops Q (o :: rest) a w := by
  obtain ⟨hw, g, i, c, t, v, hx, hy, hg, hc, h1, h⟩ := h
  obtain ⟨_, _, _, hi⟩ := hr
  refine list_want hw fun _ hK => ?_
  have hcs : v.cells = #[v] := by cases v <;> simp_all [Value.oneCell', Value.cells]
  have hcell : w.cell? ⟨g, i, none⟩ = some c[i] := by
    rw [cell_of_row w g i c t (0, 0) hg]; simp [hc]
  have hfz := frozen_of_row w g i c t hg
  have hs : (store ⟨g, i, none⟩ v).run P w = .ok () (w.setCell ⟨g, i, none⟩ v) := by
    rw [run_store P w _ v _ h1, hcell, hfz]; rfl
  have hv : (storeVar ty ⟨g, i, none⟩ v).run P w = .ok () (w.setCell ⟨g, i, none⟩ v) := by
    cases hq : P.info? ty with
    | none => simp [hq] at hi
    | some inf =>
      have hs1 : inf.size = 1 := by simpa [hq] using hi
      have e0 : ((⟨g, i, none⟩ : Addr).add 0) = ⟨g, i, none⟩ := rfl
      simp [storeVar, sizeOf, typeInfo, hq, hs1, hcs, Sem.run_bind, storeCells, e0, hs]
  unfold Oper.wp execOp
  simp only [ho, hx, hy, Instr.storeAt, Instr.sureAddr, Sem.run_bind, Sem.run_pure, Result.andThen_ok, hv]
  exact hK _ _ h
/-- The result is a whole array; two results, one or both of them whole arrays. -/
theorem ret_row {fn : Func} {R : Ending → World → Prop} {a : Act} {w : World} {p : Tmp} {ty : TypeId} (h : fn.results = #[.cell p ty]) {n : Nat} (hr : RowTy P ty n) (hdf : a.defers = [])
    (k : ∃ g t cs fr, a.tmps.getD p undef = .pointer (some ⟨g, 0, none⟩) ∧ w.heap[g]? = some (.cells cs t fr) ∧ cs.size = n ∧ R (.returned (.agg cs)) w) : bodyPost P fn R .ret a w := by
  obtain ⟨g, t, cs, fr, hp, hg, hs, hR⟩ := k
  obtain ⟨d, hu, hd, hi⟩ := hr
  exact bodyPost_ret (results_cell_row h a.tmps w g t cs fr d hp hg hu (by cases d <;> simp_all [isRowD]) (by rw [hi, hs])) hdf hR
theorem ret_row_tmp {fn : Func} {R : Ending → World → Prop} {a : Act} {w : World} {p u : Tmp} {ty : TypeId} (h : fn.results = #[.cell p ty, .tmp u]) {n : Nat} (hr : RowTy P ty n) (hdf : a.defers = [])
    (k : ∃ g t cs fr, a.tmps.getD p undef = .pointer (some ⟨g, 0, none⟩) ∧ w.heap[g]? = some (.cells cs t fr) ∧ cs.size = n ∧ R (.returned (.tuple #[.agg cs, a.tmps.getD u undef])) w) : bodyPost P fn R .ret a w := by
  obtain ⟨g, t, cs, fr, hp, hg, hs, hR⟩ := k
  refine bodyPost_ret (v := .tuple #[.agg cs, a.tmps.getD u undef]) ?_ hdf hR
  have hp' : a.tmps[p]?.getD undef = .pointer (some ⟨g, 0, none⟩) := by simpa using hp
  simp [results, h, hp', asAddr, Sem.run_bind, run_row hr hg hs]
theorem ret_row_row {fn : Func} {R : Ending → World → Prop} {a : Act} {w : World} {p q : Tmp} {ty ty' : TypeId} (h : fn.results = #[.cell p ty, .cell q ty']) {n n' : Nat} (hr : RowTy P ty n) (hr' : RowTy P ty' n') (hdf : a.defers = [])
    (k : ∃ g t cs fr g' t' cs' fr', a.tmps.getD p undef = .pointer (some ⟨g, 0, none⟩) ∧ a.tmps.getD q undef = .pointer (some ⟨g', 0, none⟩) ∧ w.heap[g]? = some (.cells cs t fr) ∧ w.heap[g']? = some (.cells cs' t' fr') ∧ cs.size = n ∧ cs'.size = n' ∧ R (.returned (.tuple #[.agg cs, .agg cs'])) w) : bodyPost P fn R .ret a w := by
  obtain ⟨g, t, cs, fr, g', t', cs', fr', hp, hp2, hg, hg', hs, hs', hR⟩ := k
  refine bodyPost_ret (v := .tuple #[.agg cs, .agg cs']) ?_ hdf hR
  have hp' : a.tmps[p]?.getD undef = .pointer (some ⟨g, 0, none⟩) := by simpa using hp
  have hq' : a.tmps[q]?.getD undef = .pointer (some ⟨g', 0, none⟩) := by simpa using hp2
  simp [results, h, hp', hq', asAddr, Sem.run_bind, run_row hr hg hs, run_row hr' hg' hs']
/-! ### Two rows compared -/
theorem run_part1 {e : TypeId} (he : CellTy P e) {w : World} {cs : Array Value} {i : Nat} {v : Value} (h : cs[i]? = some v) : (part e cs i).run P w = .ok v w := by
  obtain ⟨d, hu, hd, _⟩ := he
  have hagg : (isAgg e).run P w = .ok false w := by
    unfold isAgg
    rw [Sem.run_bind, run_underlying hu w]
    cases d <;> simp_all [isRowD]
  unfold part
  rw [Sem.run_bind, hagg]
  simp [h]
theorem run_items {e : TypeId} (he : CellTy P e) (d : Nat) (xs ys : Array Value) (c : Nat → Bool) (w : World) : ∀ (is : List Nat),
    (∀ i ∈ is, ∃ a b, xs[i]? = some a ∧ ys[i]? = some b ∧ (Op.equalIn d e a b).run P w = .ok (c i) w) → (Op.eqItems d e 1 xs ys is).run P w = .ok (is.all c) w
  | [], _ => by simp [Op.eqItems]
  | i :: is, h => by
    obtain ⟨a, b, ha, hb, hc⟩ := h i (by simp)
    have ih := run_items he d xs ys c w is (fun j hj => h j (by simp [hj]))
    simp only [Op.eqItems, Nat.mul_one, Sem.run_bind, run_part1 he ha, run_part1 he hb, Result.andThen_ok, hc, List.all_cons]
    cases c i
    · simp
    · simpa using ih
theorem run_equal_row {t e : TypeId} {n : Nat} (hu : P.underlying t = some (.array n e)) (he : CellTy P e) (xs ys : Array Value) (c : Nat → Bool) (w : World)
    (h : ∀ i, i < n → ∃ a b, xs[i]? = some a ∧ ys[i]? = some b ∧ (Op.equalIn 9999 e a b).run P w = .ok (c i) w) : (Op.equal t (.agg xs) (.agg ys)).run P w = .ok ((List.range n).all c) w := by
  have he' := he
  obtain ⟨_, _, _, hi⟩ := he'
  cases hq : P.info? e with
  | none => simp [hq] at hi
  | some inf =>
    have hs1 : inf.size = 1 := by simpa [hq] using hi
    have hc1 : P.cellsOf e = 1 := by simp [Program.cellsOf, hq, hs1]
    have := run_equalIn_array (P := P) (w := w) 9999 xs ys hu hq
    show (Op.equalIn (9999 + 1) t (.agg xs) (.agg ys)).run P w = _
    rw [this, hc1]
    exact run_items he 9999 xs ys c w _ (fun i hi => h i (by simpa using hi))
theorem run_eql_row {t e : TypeId} {n : Nat} (hu : P.underlying t = some (.array n e)) (he : CellTy P e) (xs ys : Array Value) (c : Nat → Bool) (w : World)
    (h : ∀ i, i < n → ∃ a b, xs[i]? = some a ∧ ys[i]? = some b ∧ (Op.equalIn 9999 e a b).run P w = .ok (c i) w) : (binOp .eql t (.agg xs) (.agg ys)).run P w = .ok (.bool ((List.range n).all c)) w := by
  simp [binOp, Sem.run_bind, run_equal_row hu he xs ys c w h]
theorem run_neq_row {t e : TypeId} {n : Nat} (hu : P.underlying t = some (.array n e)) (he : CellTy P e) (xs ys : Array Value) (c : Nat → Bool) (w : World)
    (h : ∀ i, i < n → ∃ a b, xs[i]? = some a ∧ ys[i]? = some b ∧ (Op.equalIn 9999 e a b).run P w = .ok (c i) w) : (binOp .neq t (.agg xs) (.agg ys)).run P w = .ok (.bool (!(List.range n).all c)) w := by
  simp [binOp, Sem.run_bind, run_equal_row hu he xs ys c w h]
/-- A pure operation of a drawn region is taken first. -/
theorem held_pure {l : List Oper} {Q : Exit → Act → World → Prop} {S : World → Prop} {fuel : Nat} {listed : Array Bool} {a : Act} {w : World} (i : Nat) {oi : Oper} {v : Value} (hi : l[i]? = some oi) (hg : oi.guard = none)
    (hs : Region.noSelect l.toArray = true) (hf : Region.free .any l.toArray listed i = true) (hr : (Region.ready .any l.toArray listed).contains i = true)
    (hQ' : ∀ c a v w, Q (.panic c) (a.put oi.dst v) w → Q (.panic c) a w) (hS : S w) (hv : ∀ w, S w → (execOp a.eval oi).run P w = .ok (.value v) w)
    (h : wpAnyH P .any l.toArray Q S fuel (listed.setIfInBounds i true) (a.put oi.dst v) w) : wpAnyH P .any l.toArray Q S (fuel + 1) listed a w :=
  wpAnyH_take (by simpa using hi) hs hf hr (fun c a' w' q => hQ' c a' _ w' q) (.inl ⟨by simp [Region.wanted, hg], hv⟩) hS h
theorem name_world {c : Code} {Q : Exit → Act → World → Prop} {a : Act} (w : World) (h : ∀ W, W = w → c.wp P Q a W) : c.wp P Q a w := h w rfl
/-- A region that draws its order, from its begin. -/
theorem any_begin {id : Nat} {Q : Exit → Act → World → Prop} {a : Act} {w : World} {l : List Oper} {m : Nat} (hm : P.follows .mixedOrders = true) (e : l.length = m)
    (h : wpAny P .any l.toArray Q m (Array.replicate m false) a w.drew) : (Code.region id l.toArray true).wp P Q a w := by
  refine wp_region_any hm ?_
  rw [List.size_toArray, e]
  exact h
theorem held_begin {id : Nat} {Q : Exit → Act → World → Prop} {a : Act} {w : World} {l : List Oper} {m : Nat} (S : World → Prop) (hm : P.follows .mixedOrders = true) (e : l.length = m)
    (h : wpAnyH P .any l.toArray Q S m (Array.replicate m false) a w.drew) : (Code.region id l.toArray true).wp P Q a w := by
  refine wp_region_held (S := S) hm ?_
  rw [List.size_toArray, e]
  exact h
/-- One operation as a list of one. -/
theorem op_of_list {ops : Array Oper} {Q : Exit → Act → World → Prop} {o : Oper} {a : Act} {w : World} {K : Act → World → Prop} {i : Nat} (ho : ops[i]? = some o)
    (h : wpList P ops (Exit.then K Q) [o] a w) : wpOp P ops Q i K a w := by
  unfold wpOp
  simp only [ho]
  unfold wpList at h
  have hK : wpList P ops (Exit.then K Q) [] = K := by funext a w; rfl
  rw [hK] at h
  split
  · rename_i hw
    rw [if_pos hw] at h
    rcases h with h | ⟨h1, a0, w0, h2⟩
    · left
      unfold Oper.wp at *
      generalize (execOp a.eval o).run P w = r at *
      cases r with
      | ok n w' => cases n <;> exact h
      | halt x w' => cases x <;> exact h
    · exact .inr ⟨h1, a0, w0, h2⟩
  · rename_i hw
    rw [if_neg hw] at h
    exact h
theorem held_step {l : List Oper} {Q : Exit → Act → World → Prop} {S : World → Prop} {fuel : Nat} {listed : Array Bool} {a : Act} {w : World} (rs : List Nat) (hr : Region.ready .any l.toArray listed = rs) (hne : rs ≠ [])
    (h : ∀ i ∈ rs, ∃ o, l[i]? = some o ∧ wpList P l.toArray (Exit.then (fun a' w' => S w' ∧ wpAnyH P .any l.toArray Q S fuel (listed.setIfInBounds i true) a' w') Q) [o] a w) : wpAnyH P .any l.toArray Q S (fuel + 1) listed a w :=
  wpAnyH_all hr hne fun i hi => by obtain ⟨o, ho, hl⟩ := h i hi; exact op_of_list (by simpa using ho) hl
theorem any_step {l : List Oper} {Q : Exit → Act → World → Prop} {fuel : Nat} {listed : Array Bool} {a : Act} {w : World} (rs : List Nat) (hr : Region.ready .any l.toArray listed = rs) (hne : rs ≠ [])
    (h : ∀ i ∈ rs, ∃ o, l[i]? = some o ∧ wpList P l.toArray (Exit.then (wpAny P .any l.toArray Q fuel (listed.setIfInBounds i true)) Q) [o] a w) : wpAny P .any l.toArray Q (fuel + 1) listed a w :=
  ⟨fun h0 => absurd (hr ▸ h0) hne, fun i hi => by obtain ⟨o, ho, hl⟩ := h i (hr ▸ hi); exact op_of_list (by simpa using ho) hl⟩
theorem held_move {l : List Oper} {Q : Exit → Act → World → Prop} {S : World → Prop} {fuel : Nat} {listed : Array Bool} {a : Act} {w : World} (i : Nat) {oi : Oper} {x : Operand} (hi : l[i]? = some oi) (ho : oi.op = .move x) (hg : oi.guard = none)
    (hs : Region.noSelect l.toArray = true) (hf : Region.free .any l.toArray listed i = true) (hr : (Region.ready .any l.toArray listed).contains i = true)
    (hQ' : ∀ c a v w, Q (.panic c) (a.put oi.dst v) w → Q (.panic c) a w) (hS : S w)
    (h : wpAnyH P .any l.toArray Q S fuel (listed.setIfInBounds i true) (a.put oi.dst (a.eval x)) w) : wpAnyH P .any l.toArray Q S (fuel + 1) listed a w :=
  wpAnyH_take (by simpa using hi) hs hf hr (fun c a' w' q => hQ' c a' _ w' q) (.inl ⟨by simp [Region.wanted, hg], fun w' _ => by simp [execOp, ho, Sem.run_pure]⟩) hS h
theorem held_load {l : List Oper} {Q : Exit → Act → World → Prop} {S : World → Prop} {fuel : Nat} {listed : Array Bool} {a : Act} {w : World} (i : Nat) {oi : Oper} {ty : TypeId} {n : Nat} (hrt : RowTy P ty n) {x : Operand} (hi : l[i]? = some oi) (ho : oi.op = .load ty x) (hg : oi.guard = none)
    (hs : Region.noSelect l.toArray = true) (hf : Region.free .any l.toArray listed i = true) (hr : (Region.ready .any l.toArray listed).contains i = true)
    (hQ' : ∀ c a v w, Q (.panic c) (a.put oi.dst v) w → Q (.panic c) a w) (hS : S w)
    (h : ∃ g cs, a.eval x = .pointer (some ⟨g, 0, none⟩) ∧ (∀ w, S w → ∃ t fr, w.heap[g]? = some (.cells cs t fr)) ∧ cs.size = n ∧ wpAnyH P .any l.toArray Q S fuel (listed.setIfInBounds i true) (a.put oi.dst (.agg cs)) w) : wpAnyH P .any l.toArray Q S (fuel + 1) listed a w := by
  obtain ⟨g, cs, hx, hc, hn, h⟩ := h
  refine wpAnyH_take (by simpa using hi) hs hf hr (fun c a' w' q => hQ' c a' _ w' q) (.inl ⟨by simp [Region.wanted, hg], fun w' hS' => ?_⟩) hS h
  obtain ⟨t, fr, hg⟩ := hc w' hS'
  have hl := run_row hrt hg hn
  simp only [execOp, ho, hx, Instr.loadAt, Instr.sureAddr, Sem.run_bind, Sem.run_pure, Result.andThen_ok, hl]
theorem gate_load {ops : Array Oper} {Q : Exit → Act → World → Prop} {rest : List Oper} {o : Oper} {a : Act} {w : World} {ty : TypeId} {x : Operand} (_ho : o.op = .load ty x) (h : wpList P ops Q (o :: rest) a w) : wpList P ops Q (o :: rest) a w := h
theorem gate_store {ops : Array Oper} {Q : Exit → Act → World → Prop} {rest : List Oper} {o : Oper} {a : Act} {w : World} {ty : TypeId} {x y : Operand} (_ho : o.op = .store ty x y) (h : wpList P ops Q (o :: rest) a w) : wpList P ops Q (o :: rest) a w := h
end

/-! ### What a block holds -/
section
variable {w W w1 : World} {o : Obj} {b B : Nat} {x : Option Obj}
theorem size_drewN (n : Nat) : (w.drewN n).heap.size = w.heap.size := rfl
theorem hp_alloc_eq (h : b = w.heap.size) : (w.alloc o).heap[b]? = some o := by subst h; exact heap_alloc_new w o
theorem hp_alloc_lt (h : b < w.heap.size) (k : w.heap[b]? = x) : (w.alloc o).heap[b]? = x := by rw [Below.heap_alloc w o b h]; exact k
theorem hp_drew (k : w.heap[b]? = x) : w.drew.heap[b]? = x := k
theorem hp_drewN {n : Nat} (k : w.heap[b]? = x) : (w.drewN n).heap[b]? = x := k
theorem hp_setCell_eq {i : Nat} {v : Value} {c : Array Value} {t : TypeId} {fr : Nat × Nat} (k : w.heap[b]? = some (.cells c t fr)) : (w.setCell ⟨b, i, none⟩ v).heap[b]? = some (.cells (c.setIfInBounds i v) t fr) := by
  simp [World.setCell, Array.getElem?_modify, k]
theorem hp_setCell_ne {p : Addr} {v : Value} (h : b ≠ p.block) (k : w.heap[b]? = x) : (w.setCell p v).heap[b]? = x := by rw [heap_setCell_other w p b v h]; exact k
theorem hp_setRow_eq {cs old : Array Value} {t : TypeId} {fr : Nat × Nat} (k : w.heap[b]? = some (.cells old t fr)) : (w.setRow b cs).heap[b]? = some (.cells cs t fr) := setRow_heap w b old cs t fr k
theorem hp_setRow_ne {g : Nat} {cs : Array Value} (h : b ≠ g) (k : w.heap[b]? = x) : (w.setRow g cs).heap[b]? = x := by rw [setRow_other w g b cs h]; exact k
theorem hp_below (hb : Below B W w1) (h : b < B) (k : W.heap[b]? = x) : w1.heap[b]? = x := by rw [hb.block b h]; exact k
theorem cell_of {i : Nat} {c : Array Value} {t : TypeId} {fr : Nat × Nat} {v : Value} (k : w.heap[b]? = some (.cells c t fr)) (h : c[i]? = some v) : w.cell? ⟨b, i, none⟩ = some v := by
  rw [cell_of_row w b i c t fr k]; exact h
theorem fz_of {i : Nat} {c : Array Value} {t : TypeId} (k : w.heap[b]? = some (.cells c t (0, 0))) : w.frozen? ⟨b, i, none⟩ = false := frozen_of_row w b i c t k
theorem lt_of {o : Obj} (k : w.heap[b]? = some o) : b < w.heap.size := by
  by_cases h : b < w.heap.size
  · exact h
  · rw [Array.getElem?_eq_none (by omega)] at k; cases k
theorem bl_setRow (h : Below B W w) {g : Nat} (hg : B ≤ g) (cs : Array Value) : Below B W (w.setRow g cs) :=
  ⟨h.os, h.tape, h.output, by rw [setRow_size]; exact h.size, fun k hk => by rw [setRow_other w g k cs (by omega)]; exact h.block k hk⟩
theorem bl_drewN (h : Below B W w) (n : Nat) : Below B W (w.drewN n) := ⟨h.os, h.tape, h.output, h.size, h.block⟩
theorem bl_trans {C : Nat} (h : Below B W w) (k : Below C w w1) (hC : B ≤ C) : Below B W w1 := h.trans (k.mono hC)
end

/-! ### Short names for the closing steps of a walk -/
attribute [simp] size_drewN
section
variable {w W w1 : World} {o : Obj} {b B C : Nat} {x : Option Obj}
theorem p1 (h : b = w.heap.size) : (w.alloc o).heap[b]? = some o := hp_alloc_eq h
theorem p2 (h : b < w.heap.size) (k : w.heap[b]? = x) : (w.alloc o).heap[b]? = x := hp_alloc_lt h k
theorem p3 {n : Nat} (k : w.heap[b]? = x) : (w.drewN n).heap[b]? = x := k
theorem p4 (k : w.heap[b]? = x) : w.drew.heap[b]? = x := k
theorem p5 {cs old : Array Value} {t : TypeId} {fr : Nat × Nat} (k : w.heap[b]? = some (.cells old t fr)) : (w.setRow b cs).heap[b]? = some (.cells cs t fr) := hp_setRow_eq k
theorem p6 {g : Nat} {cs : Array Value} (h : b ≠ g) (k : w.heap[b]? = x) : (w.setRow g cs).heap[b]? = x := hp_setRow_ne h k
theorem p7 {i : Nat} {v : Value} {c : Array Value} {t : TypeId} {fr : Nat × Nat} (k : w.heap[b]? = some (.cells c t fr)) : (w.setCell ⟨b, i, none⟩ v).heap[b]? = some (.cells (c.setIfInBounds i v) t fr) := hp_setCell_eq k
theorem p8 {p : Addr} {v : Value} (h : b ≠ p.block) (k : w.heap[b]? = x) : (w.setCell p v).heap[b]? = x := hp_setCell_ne h k
theorem p9 (hb : Below B W w1) (h : b < B) (k : W.heap[b]? = x) : w1.heap[b]? = x := hp_below hb h k
theorem b1 {g : Nat} {cs : Array Value} (hg : B ≤ g) (h : Below B W w) : Below B W (w.setRow g cs) := bl_setRow h hg cs
theorem b2 {n : Nat} (h : Below B W w) : Below B W (w.drewN n) := bl_drewN h n
theorem b3 (k : Below C w w1) (hC : B ≤ C) (h : Below B W w) : Below B W w1 := bl_trans h k hC
theorem b4 (hB : B ≤ w.heap.size) (h : Below B W w) : Below B W (w.alloc o) := h.alloc hB o
theorem b5 {p : Addr} {v : Value} (hp : B ≤ p.block) (h : Below B W w) : Below B W (w.setCell p v) := h.setCell hp v
end

/-! ### All but one block -/
section
variable {w W w1 : World} {o : Obj} {b B g : Nat} {x : Option Obj}
theorem p10 (hb : w.grownBy w1 (some g)) (h : b < w.heap.size ∧ b ≠ g) (k : w.heap[b]? = x) : w1.heap[b]? = x := by
  rw [hb.block b h.1 (fun e => h.2 (Option.some.inj e))]; exact k
theorem b6 (hb : w.grownBy w1 (some g)) (h2 : B ≤ w.heap.size ∧ B ≤ g) (h : Below B W w) : Below B W w1 :=
  h.grown hb h2.1 (fun k hk => by have := Option.some.inj hk; omega)
theorem gb0 (h : Below W.heap.size W w) : W.grownBy w (some g) := ⟨h.os, h.tape, h.output, h.size, fun i hi _ => h.block i hi⟩
theorem gbr : w.grownBy w (some g) := ⟨rfl, rfl, rfl, Nat.le_refl _, fun _ _ _ => rfl⟩
theorem gb1 {c : Nat} {cs : Array Value} (hc : c = g ∨ W.heap.size ≤ c) (h : W.grownBy w (some g)) : W.grownBy (w.setRow c cs) (some g) :=
  ⟨h.os, h.tape, h.output, by rw [setRow_size]; exact h.size, fun k hk hn => by
    rw [setRow_other w c k cs (by rintro rfl; rcases hc with e | e; exact hn (by rw [e]); omega)]; exact h.block k hk hn⟩
theorem gb2 {n : Nat} (h : W.grownBy w (some g)) : W.grownBy (w.drewN n) (some g) := ⟨h.os, h.tape, h.output, h.size, h.block⟩
theorem gb3 (h : W.grownBy w (some g)) : W.grownBy w.drew (some g) := ⟨h.os, h.tape, h.output, h.size, h.block⟩
theorem gb4 (h : W.grownBy w (some g)) : W.grownBy (w.alloc o) (some g) :=
  ⟨h.os, h.tape, h.output, Nat.le_trans h.size (by simp), fun i hi hne => (Below.heap_alloc w o i (Nat.lt_of_lt_of_le hi h.size)).trans (h.block i hi hne)⟩
theorem gb5 {p : Addr} {v : Value} (hp : p.block = g ∨ W.heap.size ≤ p.block) (h : W.grownBy w (some g)) : W.grownBy (w.setCell p v) (some g) :=
  ⟨h.os, h.tape, h.output, by simpa [World.setCell] using h.size, fun i hi hne => (Below.heap_setCell w p v i (by
    rintro rfl; rcases hp with e | e; exact hne (by rw [e]); omega)).trans (h.block i hi hne)⟩
theorem gb6 (k : Below B w w1) (hB : W.heap.size ≤ B) (h : W.grownBy w (some g)) : W.grownBy w1 (some g) :=
  ⟨k.os.trans h.os, k.tape.trans h.tape, k.output.trans h.output, Nat.le_trans h.size k.size, fun i hi hne => (k.block i (by omega)).trans (h.block i hi hne)⟩
theorem gb8 (k : Below w.heap.size w w1) (h : W.grownBy w (some g)) : W.grownBy w1 (some g) := gb6 k h.size h
theorem gb7 {g' : Nat} (k : w.grownBy w1 (some g')) (hB : g' = g ∨ W.heap.size ≤ g') (h : W.grownBy w (some g)) : W.grownBy w1 (some g) :=
  ⟨k.os.trans h.os, k.tape.trans h.tape, k.output.trans h.output, Nat.le_trans h.size k.size, fun i hi hne => (k.block i (by have := h.size; omega) (fun e => by
    have e' := Option.some.inj e; rcases hB with e2 | e2
    · exact hne (by rw [e', e2])
    · omega)).trans (h.block i hi hne)⟩
theorem gb_lt (h : W.grownBy w (some g)) (hb : b < W.heap.size) : b < w.heap.size := Nat.lt_of_lt_of_le hb h.size
end

theorem setCell_last (w : World) (cs : Array Value) (T : TypeId) (n i b : Nat) (v : Value) (hb : b = w.heap.size) :
    ((w.alloc (.cells cs T)).drewN n).setCell ⟨b, i, none⟩ v = (w.alloc (.cells (cs.setIfInBounds i v) T)).drewN n := by
  subst hb
  have h := World.setCell_alloc_at (w := w) cs T w.heap.size i v rfl
  have e : ((w.alloc (.cells cs T)).drewN n).setCell ⟨w.heap.size, i, none⟩ v = ((w.alloc (.cells cs T)).setCell ⟨w.heap.size, i, none⟩ v).drewN n := rfl
  rw [e, h]

theorem hid {p : Prop} (h : p) : Hid p := h
theorem ret_int {k : IntKind} {a b : Int} (h : a = b) : Ending.returned (.int k a) = .returned (.int k b) := by rw [h]

end Go.Proofs.YtfkeaglbfembnaaDoor.Arr
