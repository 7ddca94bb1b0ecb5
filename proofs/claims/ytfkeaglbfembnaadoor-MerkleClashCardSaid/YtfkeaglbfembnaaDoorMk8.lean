/- The root of a tree of hashes. -/
import Derived.WalkKit
import Derived.StillTactics
import Derived.Outline
import Derived.Deep.DeepCutAuto
import Derived.Deep.CutBlock
import Derived.Test.YtfkeaglbfembnaaDoorMk7
namespace Go.Proofs.YtfkeaglbfembnaaDoor.Mk8
open Go Go.RowKit Go.Proofs.YtfkeaglbfembnaaDoor.Arr Go.Proofs.YtfkeaglbfembnaaDoor.Mid Go.Proofs.YtfkeaglbfembnaaDoor.App Go.Proofs.YtfkeaglbfembnaaDoor.Sha1 Go.Proofs.YtfkeaglbfembnaaDoor.Sha2 Go.Proofs.YtfkeaglbfembnaaDoor.Sha4 Go.Proofs.YtfkeaglbfembnaaDoor.Sha5 Go.Proofs.YtfkeaglbfembnaaDoor.Sha6 Go.Proofs.YtfkeaglbfembnaaDoor.Sha7 Go.Proofs.YtfkeaglbfembnaaDoor.Sha8 Go.Proofs.YtfkeaglbfembnaaDoor.Sha9 Go.Proofs.YtfkeaglbfembnaaDoor.Sha10 Go.Proofs.YtfkeaglbfembnaaDoor.Sha12 Go.Proofs.YtfkeaglbfembnaaDoor.Sha13 Go.Proofs.YtfkeaglbfembnaaDoor.Sha17 Go.Proofs.YtfkeaglbfembnaaDoor.Mk1 Go.Proofs.YtfkeaglbfembnaaDoor.Mk2 Go.Proofs.YtfkeaglbfembnaaDoor.Mk3 Go.Proofs.YtfkeaglbfembnaaDoor.Mk4 Go.Proofs.YtfkeaglbfembnaaDoor.Mk5 Go.Proofs.YtfkeaglbfembnaaDoor.Mk6 Go.Proofs.YtfkeaglbfembnaaDoor.Mk7
set_option maxRecDepth 100000
set_option linter.unusedVariables false
set_option linter.unusedSimpArgs false
theorem elem22 : Tryd.prog.elem 22 = 29 := by kernel_rfl
theorem size29 (w : World) : (sizeOf 29).run Tryd.prog w = .ok 1 w := by
  have hi : (Tryd.prog.info? 29).map (·.size) = some 1 := by kernel_rfl
  cases hq : Tryd.prog.info? 29 with
  | none => simp [hq] at hi
  | some i => simp [hq] at hi; simp [sizeOf, typeInfo, hq, hi]
theorem slice22h (b o l c m : Nat) (h2 : m ≤ c) (w : World) : (Instr.slice 22 (.slice (some ⟨b, o, none⟩) l c) none (some (.int .i64 (m : Int))) none).run Tryd.prog w = .ok (.slice (some ⟨b, o, none⟩) m c) w := by
  have hu : Tryd.prog.underlying 22 = some (.slice (Tryd.prog.elem 22)) := by rw [elem22]; exact Tryd.underlying22
  rw [run_slice_h w 22 (some ⟨b, o, none⟩) l c hu .i64 (m : Int) (by omega) (by omega), elem22, size29]
  simp only [Result.andThen_ok, sliced, Int.toNat_natCast, Nat.zero_mul, Option.map_some, Nat.sub_zero]
  congr 2
  split <;> rfl
theorem slice22l (b o l c m : Nat) (h1 : m ≤ l) (h2 : m < c) (w : World) : (Instr.slice 22 (.slice (some ⟨b, o, none⟩) l c) (some (.int .i64 (m : Int))) none none).run Tryd.prog w = .ok (.slice (some ⟨b, o + m, none⟩) (l - m) (c - m)) w := by
  have hu : Tryd.prog.underlying 22 = some (.slice (Tryd.prog.elem 22)) := by rw [elem22]; exact Tryd.underlying22
  rw [run_slice_l w 22 (some ⟨b, o, none⟩) l c hu .i64 (m : Int) (by omega) (by omega), elem22, size29]
  simp only [Result.andThen_ok, sliced, Int.toNat_natCast, Nat.mul_one, Option.map_some]
  rw [if_neg (by omega), Addr.add_mid]
theorem PSl.take {w : World} {B b o k : Nat} {ps : List Bytes8} (h : PSl w B (some ⟨b, o, none⟩) ps) (hk : k ≤ ps.length) : PSl w B (some ⟨b, o, none⟩) (ps.take k) := fun h0 => by
  rw [List.length_take] at h0
  obtain ⟨b', o', e, hb, hc⟩ := h (by omega)
  refine ⟨b', o', e, hb, fun j hj => ?_⟩
  rw [List.length_take] at hj
  have e2 : (ps.take k).getD j [] = ps.getD j [] := by
    rw [List.getD_eq_getElem?_getD, List.getD_eq_getElem?_getD, List.getElem?_take, if_pos (by omega)]
  rw [e2]; exact hc j (by omega)
theorem PSl.drop {w : World} {B b o k : Nat} {ps : List Bytes8} (h : PSl w B (some ⟨b, o, none⟩) ps) (hk : k ≤ ps.length) : PSl w B (some ⟨b, o + k, none⟩) (ps.drop k) := fun h0 => by
  rw [List.length_drop] at h0
  obtain ⟨b', o', e, hb, hc⟩ := h (by omega)
  injection e with e; injection e with e1 e2 e3; subst e1; subst e2
  refine ⟨b, o + k, rfl, hb, fun j hj => ?_⟩
  rw [List.length_drop] at hj
  have e2 : (ps.drop k).getD j [] = ps.getD (k + j) [] := by
    rw [List.getD_eq_getElem?_getD, List.getD_eq_getElem?_getD, List.getElem?_drop]
  rw [e2, Nat.add_assoc]; exact hc (k + j) (by omega)
/-- The root of texts. -/
noncomputable def rootL (ps : List Bytes8) : Dig :=
  if h : ps.length < 2 then (if ps.length = 0 then shaL [2#8] else leafD (ps.getD 0 [])) else nodeD (rootL (ps.take (hf ps.length))) (rootL (ps.drop (hf ps.length)))
termination_by ps.length
decreasing_by
  · have := hf_lt ps.length (by omega); rw [List.length_take]; omega
  · have := hf_pos ps.length; rw [List.length_drop]; omega
theorem rootL_zero : rootL [] = shaL [2#8] := by rw [rootL, dif_pos (by decide), if_pos (by decide)]
theorem rootL_one (l : Bytes8) : rootL [l] = leafD l := by
  have h : [l].length = 1 := by simp
  rw [rootL, dif_pos (by omega), if_neg (by omega), List.getD_cons_zero]
theorem rootL_more (ps : List Bytes8) (h : ¬ ps.length < 2) : rootL ps = nodeD (rootL (ps.take (hf ps.length))) (rootL (ps.drop (hf ps.length))) := by rw [rootL, dif_neg h]
theorem psl_lit {w : World} {b : Nat} {v : B8} {c : Nat} {t t' : TypeId} {fr fr' : Nat × Nat} (hc : w.heap[c]? = some (.cells #[by8 v] t' fr')) (h : w.heap[b]? = some (.cells #[.slice (some ⟨c, 0, none⟩) 1 1] t fr)) : PSl w w.heap.size (some ⟨b, 0, none⟩) [[v]] :=
  psl_one (l := [v]) h (lt_of h) (Nat.le_refl _) (bsl_one (v := v) hc rfl)
end Go.Proofs.YtfkeaglbfembnaaDoor.Mk8
