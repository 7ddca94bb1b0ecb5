/- Slices of digests of the call's own. -/
import Derived.Test.YtfkeaglbfembnaaDoorMk13
import Derived.Test.YtfkeaglbfembnaaDoorMk14
namespace Go.Proofs.YtfkeaglbfembnaaDoor.Mk15
open Go Go.RowKit Go.Proofs.YtfkeaglbfembnaaDoor.Arr Go.Proofs.YtfkeaglbfembnaaDoor.Mid Go.Proofs.YtfkeaglbfembnaaDoor.App Go.Proofs.YtfkeaglbfembnaaDoor.Sha1 Go.Proofs.YtfkeaglbfembnaaDoor.Sha2 Go.Proofs.YtfkeaglbfembnaaDoor.Sha7 Go.Proofs.YtfkeaglbfembnaaDoor.Sha8 Go.Proofs.YtfkeaglbfembnaaDoor.Mk1 Go.Proofs.YtfkeaglbfembnaaDoor.Mk2 Go.Proofs.YtfkeaglbfembnaaDoor.Mk4
set_option maxRecDepth 100000
set_option linter.unusedVariables false
set_option linter.unusedSimpArgs false
/-- m digests' cells, one behind the other. -/
def digCells (f : Nat → Dig) : Nat → List Value
  | 0 => []
  | m + 1 => digCells f m ++ (List.range 32).map fun i => by8 (f m i)
theorem digCells_len (f : Nat → Dig) : ∀ m, (digCells f m).length = m * 32
  | 0 => rfl
  | m + 1 => by unfold digCells; rw [List.length_append, digCells_len f m]; simp; omega
theorem digCells_get (f : Nat → Dig) : ∀ m k i, k < m → i < 32 → (digCells f m)[32 * k + i]? = some (by8 (f k i))
  | m + 1, k, i, hk, hi => by
    unfold digCells
    by_cases h : k < m
    · rw [List.getElem?_append_left (by rw [digCells_len]; omega)]; exact digCells_get f m k i h hi
    · obtain rfl : k = m := by omega
      rw [List.getElem?_append_right (by rw [digCells_len]; omega), digCells_len, show 32 * k + i - k * 32 = i by omega, List.getElem?_map, List.getElem?_range hi]; rfl
theorem digCells_congr (f g : Nat → Dig) : ∀ m, (∀ k, k < m → f k = g k) → digCells f m = digCells g m
  | 0, _ => rfl
  | m + 1, h => by unfold digCells; rw [digCells_congr f g m (fun k hk => h k (by omega)), h m (by omega)]
/-- v is a slice of the call's own that holds m digests. -/
def OwnD (w : World) (base : Nat) (v : Value) (m : Nat) (f : Nat → Dig) : Prop := w.ownsRow base 26 32 v m (digCells f m)
theorem OwnD.nil (w : World) (base : Nat) (f : Nat → Dig) : OwnD w base (.slice none 0 0) 0 f := World.ownsRow_nil _ _ _ _
theorem OwnD.below {w w' : World} {base m : Nat} {v : Value} {f : Nat → Dig} (h : OwnD w base v m f) (hb : Below w.heap.size w w') : OwnD w' base v m f := own_none h hb
theorem OwnD.alloc {w : World} {base m : Nat} {v : Value} {f : Nat → Dig} (h : OwnD w base v m f) (o : Obj) : OwnD (w.alloc o) base v m f := World.ownsRow.alloc h o
theorem OwnD.form {w : World} {base m : Nat} {v : Value} {f : Nat → Dig} (h : OwnD w base v m f) : ∃ A c, v = .slice A m c ∧ m ≤ c ∧ DSl w w.heap.size A m f := by
  rcases h.2 with ⟨rfl, h0⟩ | ⟨g, cap, cur, rfl, hb, hg, hc, _, hs, ht⟩
  · exact ⟨none, 0, by rw [h0], by omega, fun h1 => by omega⟩
  · refine ⟨some ⟨g, 0, none⟩, cap, rfl, hc, fun _ => ⟨g, 0, rfl, lt_of hg, fun k hk i hi => ?_⟩⟩
    rw [Nat.zero_add, cell_of_row w g (32 * k + i) cur 26 (0, 0) hg]
    have e := digCells_get f m k i hk hi
    rw [← ht, List.getElem?_take, if_pos (by omega), Array.getElem?_toList] at e
    exact e
theorem elem26 : ElemTy Tryd.prog 53 26 32 32 := by
  have h : (Tryd.prog.info? 26).map (fun i => (i.zero, i.size, i.bytes)) = some (some (.agg (brow 32 fun _ => 0#8)), 32, 32) := by kernel_rfl
  obtain ⟨i, hi, hz, hs, hb⟩ := info_parts h
  exact ⟨Tryd.underlying53, ⟨i, _, hi, hz, hs, hb, by simp only [Value.cells]; exact brow_size _ _⟩, by omega⟩
/-- One digest more. -/
def addF (f : Nat → Dig) (m : Nat) (d : Dig) (k : Nat) : Dig := if k = m then d else f k
theorem digCells_add (f : Nat → Dig) (m : Nat) (d : Dig) : digCells f m ++ ((List.range 32).map fun i => by8 (d i)) = digCells (addF f m d) (m + 1) := by
  show _ = digCells (addF f m d) m ++ (List.range 32).map fun i => by8 (addF f m d m i)
  rw [digCells_congr (addF f m d) f m (fun k hk => by unfold addF; rw [if_neg (by omega)])]
  unfold addF; rw [if_pos rfl]
section
variable {P : Program}
theorem arm_appD {ops : Array Oper} {Q : Exit → Act → World → Prop} {rest : List Oper} {o : Oper} {a : Act} {w : World} {t : TypeId} (hT : ElemTy P t 26 32 32) {s x : Operand}
    (ho : o.op = .call { callee := .builtin .append, args := #[s, x], argTypes := #[t, t] }) {base b m : Nat} {d : Dig} {v : Value} {f : Nat → Dig} {tt : TypeId} {fr : Nat × Nat} (hown : OwnD w base v m f) (hsrc : w.heap[b]? = some (.cells (brow 32 d) tt fr)) (hlen : m + 1 ≤ 1000000) (hbase : base ≤ w.heap.size)
    (h : Region.wanted o (yielded ops a.tmps) = true ∧ a.eval s = v ∧ ∃ c, a.eval x = .slice (some ⟨b, 0, none⟩) 1 c ∧
      ∀ v' w', OwnD w' base v' (m + 1) (addF f m d) → Below base w w' → wpList P ops Q rest (a.put o.dst v') w') : wpList P ops Q (o :: rest) a w := by
  obtain ⟨hw, hs, c, hx, h⟩ := h
  refine arm_app hT ho ⟨hw, base, v, m, digCells f m, some ⟨b, 0, none⟩, 1, c, (List.range 32).map fun i => by8 (d i), hs, hx, hown, by simp, fun h0 => ⟨b, 0, rfl, fun j u hu => ?_⟩, fun u hu => ?_, by unfold maxLen; omega, by omega, hbase, fun v' w' h2 h3 h4 _ => h v' w' ?_ h3⟩
  · have hj : j < 32 := by have := (List.getElem?_eq_some_iff.1 hu).1; simpa using this
    rw [List.getElem?_map, List.getElem?_range hj] at hu
    rw [Nat.zero_add, ← hu]
    exact cell_of hsrc (brow_get 32 d j hj)
  · simp at hu; obtain ⟨_, _, rfl⟩ := hu; rfl
  · unfold OwnD; rw [← digCells_add]; exact h2
end
end Go.Proofs.YtfkeaglbfembnaaDoor.Mk15
