/- Memory in a walk: rows of cells in the midst of a block: loaded, stored, copied. Nothing here hangs on the program. -/
import Derived.Deep.MidRow
import Derived.Laws.CopyOwn
import Derived.Test.YtfkeaglbfembnaaDoorArr
namespace Go.Proofs.YtfkeaglbfembnaaDoor.Mid
open Go Go.RowKit Go.Proofs.YtfkeaglbfembnaaDoor.Arr
set_option linter.unusedVariables false
set_option linter.unusedSimpArgs false
/-- A block's cells with the cells vs laid over them from place o on. -/
def blit (c : Array Value) (o : Nat) (vs : List Value) : Array Value := (c.toList.take o ++ vs ++ c.toList.drop (o + vs.length)).toArray
theorem blit_size (c : Array Value) (o : Nat) (vs : List Value) (h : o + vs.length ≤ c.size) : (blit c o vs).size = c.size := by simp [blit]; omega
theorem blit_get (c : Array Value) (o : Nat) (vs : List Value) (h : o + vs.length ≤ c.size) (i : Nat) : (blit c o vs)[i]? = if o ≤ i ∧ i < o + vs.length then vs[i - o]? else c[i]? := by
  have hl : (c.toList.take o).length = o := by simp; omega
  simp only [blit, List.getElem?_toArray]
  by_cases h1 : i < o
  · rw [List.append_assoc, List.getElem?_append_left (by omega), if_neg (by omega), List.getElem?_take, if_pos h1]; simp
  · by_cases h2 : i < o + vs.length
    · rw [List.append_assoc, List.getElem?_append_right (by omega), List.getElem?_append_left (by omega), if_pos (by omega), hl]
    · rw [List.getElem?_append_right (by simp; omega), if_neg (by omega), List.getElem?_drop]
      simp only [List.length_append, hl, Array.getElem?_toList]
      congr 1; omega
theorem blit_nil (c : Array Value) (o : Nat) (h : o ≤ c.size) : blit c o [] = c := by simp [blit]
theorem arr_toList_get (n : Nat) (g : Nat → Value) (i : Nat) (h : i < n) : (arr n g).toList[i]? = some (g i) := by
  rw [Array.getElem?_toList]; exact arr_get n g i h
section
variable {P : Program}
/-- An array is loaded out of the midst of a block. -/
theorem arm_loadm {ops : Array Oper} {Q : Exit → Act → World → Prop} {rest : List Oper} {o : Oper} {a : Act} {w : World} {ty : TypeId} {n : Nat} (hr : RowTy P ty n) {x : Operand} (ho : o.op = .load ty x)
    (h : Region.wanted o (yielded ops a.tmps) = true ∧ ∃ g i cs, a.eval x = .pointer (some ⟨g, i, none⟩) ∧ (∀ j v, cs[j]? = some v → w.cell? ⟨g, i + j, none⟩ = some v) ∧ cs.size = n ∧ wpList P ops Q rest (a.put o.dst (.agg cs)) w) : wpList P ops Q (o :: rest) a w := by
  obtain ⟨hw, g, i, cs, hx, hg, hs, h⟩ := h
  obtain ⟨d, hu, hd, hi⟩ := hr
  refine list_want hw fun _ hK => ?_
  have hk := hK _ _ h
  rw [show cs = cs.toList.toArray by simp] at hk
  exact wp_load_mid ty x ho g i hx cs.toList d (fun j v hv => hg j v (by simpa using hv)) hu (by cases d <;> simp_all [isRowD, TypeDesc.isRow]) (by rw [hi]; simp [hs]) hk
/-- An array is stored into the midst of a block. -/
theorem arm_storem {ops : Array Oper} {Q : Exit → Act → World → Prop} {rest : List Oper} {o : Oper} {a : Act} {w : World} {ty : TypeId} {n : Nat} (hr : RowTy P ty n) {x y : Operand} (ho : o.op = .store ty x y)
    (h : Region.wanted o (yielded ops a.tmps) = true ∧ ∃ g i cs old t, a.eval x = .pointer (some ⟨g, i, none⟩) ∧ a.eval y = .agg cs ∧ w.heap[g]? = some (.cells old t (0, 0)) ∧ cs.size = n ∧ i + n ≤ old.size ∧ cs.all (·.oneCell') = true ∧ wpList P ops Q rest (a.put o.dst undef) (w.setRow g (blit old i cs.toList))) : wpList P ops Q (o :: rest) a w := by
  obtain ⟨hw, g, i, cs, old, t, hx, hy, hg, hs, ho2, h1, h⟩ := h
  obtain ⟨d, hu, hd, hi⟩ := hr
  refine list_want hw fun _ hK => ?_
  have hk := hK _ _ h
  have hsc := run_storeCells_at (P := P) g i t cs.toList 0 old w hg (by simp; omega) (fun v hv => (Array.all_eq_true_iff_forall_mem.1 h1) v (by simpa using hv))
  simp only [Nat.add_zero, Array.toArray_toList] at hsc
  cases hq : P.info? ty with
  | none => simp [hq] at hi
  | some inf =>
    have hsz : cs.size = inf.size := by simp [hq] at hi; omega
    have hst : (storeVar ty ⟨g, i, none⟩ (.agg cs)).run P w = .ok () (w.setRow g (blit old i cs.toList)) := by
      have hsc' : (storeCells ⟨g, i, none⟩ cs.toList).run P w = .ok () (w.setRow g (blit old i cs.toList)) := by simpa [blit, List.append_assoc] using hsc
      generalize w.setRow g (blit old i cs.toList) = W1 at hsc' ⊢
      simp [storeVar, sizeOf, typeInfo, hq, Value.cells, hsz, hsc']
    unfold Oper.wp execOp
    simp only [ho, hx, hy, Instr.storeAt, Instr.sureAddr, Sem.run_bind, Sem.run_pure, Result.andThen_ok, hst]
    exact hk
/-- copy into the midst of a block. -/
theorem arm_copy {ops : Array Oper} {Q : Exit → Act → World → Prop} {rest : List Oper} {o : Oper} {a : Act} {w : World} (hgd : o.guard = none) {d s : Operand} {dT sT : TypeId}
    (ho : o.op = .call { callee := .builtin .copy, args := #[d, s], argTypes := #[dT, sT] }) {elem : TypeId} (hu : P.underlying dT = some (.slice elem)) (hsz : (P.info? elem).map (·.size) = some 1)
    (h : ∃ (dp sp : Option Addr) (g off dLen dCap sLen sCap : Nat) (cur : Array Value) (t : TypeId) (cs : List Value), a.eval d = .slice dp dLen dCap ∧ a.eval s = .slice sp sLen sCap ∧ w.heap[g]? = some (.cells cur t (0, 0)) ∧ cs.length = Nat.min sLen dLen ∧
      (0 < cs.length → dp = some ⟨g, off, none⟩ ∧ ∃ ad, sp = some ad ∧ ∀ j v, cs[j]? = some v → w.cell? (ad.add j) = some v) ∧ off + cs.length ≤ cur.size ∧ (∀ v ∈ cs, v.oneCell' = true) ∧
      wpList P ops Q rest (a.put o.dst (goInt cs.length)) (w.setRow g (blit cur off cs))) : wpList P ops Q (o :: rest) a w := by
  obtain ⟨dp, sp, g, off, dLen, dCap, sLen, sCap, cur, t, cs, hd, hs, hg, hn, hpos, hfit, h1, h⟩ := h
  by_cases h0 : cs.length = 0
  · obtain rfl : cs = [] := List.eq_nil_of_length_eq_zero h0
    refine wpList_copy_nothing hgd d s dT sT ho elem hu hsz dp sp dLen dCap sLen sCap hd hs (by simpa using hn.symm) ?_
    rw [blit_nil _ _ (by simpa using hfit), setRow_self w g cur t (0, 0) hg] at h
    exact h
  · obtain ⟨rfl, ad, rfl, hsrc⟩ := hpos (by omega)
    refine wpList_copy_own hgd d s dT sT ho elem hu hsz g off dLen dCap ad sLen sCap hd hs cur t hg cs hn hsrc hfit h1 ?_
    simpa [blit, List.append_assoc] using h
end
end Go.Proofs.YtfkeaglbfembnaaDoor.Mid
