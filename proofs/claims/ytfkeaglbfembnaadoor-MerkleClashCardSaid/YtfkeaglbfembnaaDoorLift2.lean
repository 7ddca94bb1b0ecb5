/- Arguments that are rows of 32 bytes. -/
import Derived.Test.YtfkeaglbfembnaaDoorLift
namespace Go.Proofs.YtfkeaglbfembnaaDoor.Lift
open Go Go.ChangeShapes Go.WideShapes Go.ChangeAt Go.WideMaps Go.WideElems Go.RowKit Go.Deep
open Go.Proofs.YtfkeaglbfembnaaDoor.Arr Go.Proofs.YtfkeaglbfembnaaDoor.Sha1 Go.Proofs.YtfkeaglbfembnaaDoor.Sha2 Go.Proofs.YtfkeaglbfembnaaDoor.Sha5 Go.Proofs.YtfkeaglbfembnaaDoor.Sha7 Go.Proofs.YtfkeaglbfembnaaDoor.Sha8
set_option maxRecDepth 100000
set_option linter.unusedVariables false
set_option linter.unusedSimpArgs false
section
variable {H : Type} {enc : TypeId × Value → H} {W : World} {held : Bool}
theorem c26 : Tryd.prog.cellsOf 26 = 32 := by kernel_rfl
/-- A list of cells that reads as 32 bytes. -/
theorem cells_bytes {fuel : Nat} {sp : Nat → Bool} {cs : List Value} {x : DataW H × List MemPlace} (h : DataW.trod enc Tryd.prog W 0 sp held fuel 26 cs = some x) : ∃ f : Nat → B8, cs.toArray = brow 32 f := by
  obtain ⟨xs, m, rfl, hx, hlen, hn3, hel⟩ := DataW.trod_array Tryd.underlying26 h
  rw [c26] at hlen
  have each : ∀ i, ∃ b : B8, i < 32 → cs[i]? = some (by8 b) := by
    intro i
    by_cases hi : i < 32
    · have h1 := hel i hi
      rw [c5, Nat.mul_one] at h1
      obtain ⟨y, hy⟩ : ∃ y, xs[i]? = some y := ⟨xs[i]'(by omega), List.getElem?_eq_getElem (by omega)⟩
      rw [hy] at h1
      obtain ⟨z, hc, _, hw⟩ := DataW.trod_int Tryd.underlying5 h1
      refine ⟨toB z, fun _ => ?_⟩
      rw [toB_val z hw]
      have := congrArg (·[0]?) hc
      simpa [List.getElem?_take, List.getElem?_drop] using this
    · exact ⟨0#8, fun h => absurd h hi⟩
  obtain ⟨f, hf⟩ := Classical.skolem.1 each
  refine ⟨f, ?_⟩
  apply Array.ext_getElem?
  intro i
  by_cases hi : i < 32
  · rw [brow_get 32 f i hi, List.getElem?_toArray, hf i hi]
  · rw [Array.getElem?_eq_none (by simp; omega), Array.getElem?_eq_none (by rw [brow_size]; omega)]
theorem open_digest {r : Reach} {b0 : Nat} {v : Value} {d : DataW H} {p : List MemPlace} (hv : Value.okWide Tryd.prog W r b0 26 v) (h : DataW.Trod enc Tryd.prog W 0 (fun _ => true) held 26 v d p) : ∃ f : Nat → B8, v = .agg (brow 32 f) := by
  obtain ⟨fuel, h⟩ := h
  have hu := Tryd.underlying26
  simp only [Value.okWide, hu] at hv
  obtain ⟨cs, rfl, h2, _⟩ := hv
  obtain ⟨f, hf⟩ := cells_bytes h
  exact ⟨f, by rw [← hf]; simp [Value.cells]⟩
end
end Go.Proofs.YtfkeaglbfembnaaDoor.Lift
