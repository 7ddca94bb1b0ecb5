/- Arguments that are two small numbers. -/
import Derived.Test.YtfkeaglbfembnaaDoorLift3
namespace Go.Proofs.YtfkeaglbfembnaaDoor.Lift
open Go Go.ChangeShapes Go.WideShapes Go.ChangeAt Go.WideMaps Go.WideElems Go.RowKit Go.Deep
set_option maxRecDepth 100000
set_option linter.unusedVariables false
set_option linter.unusedSimpArgs false
section
variable {H : Type} {enc : TypeId × Value → H} {W : World} {held : Bool}
theorem c68 : Tryd.prog.cellsOf 68 = 2 := by kernel_rfl
theorem c67 : Tryd.prog.cellsOf 67 = 1 := by kernel_rfl
/-- Two uint16. -/
theorem open_two {r : Reach} {b0 : Nat} {v : Value} {d : DataW H} {p : List MemPlace} (hv : Value.okWide Tryd.prog W r b0 68 v) (h : DataW.Trod enc Tryd.prog W 0 (fun _ => true) held 68 v d p) :
    ∃ a b : Int, v = .agg #[.int .u16 a, .int .u16 b] ∧ (Lit.int .u16 a).wf = true ∧ (Lit.int .u16 b).wf = true := by
  obtain ⟨fuel, h⟩ := h
  have hu := Tryd.underlying68
  simp only [Value.okWide, hu] at hv
  obtain ⟨cs, rfl, h2, _⟩ := hv
  obtain ⟨xs, m, rfl, hx, hlen, hn3, hel⟩ := DataW.trod_array hu h
  rw [c68] at hlen
  obtain ⟨u0, u1, hcs⟩ : ∃ u0 u1, (Value.agg cs).cells.toList = [u0, u1] := by
    match (Value.agg cs).cells.toList, hlen with
    | [u0, u1], _ => exact ⟨u0, u1, rfl⟩
  rw [hcs] at hel
  have f0 := hel 0 (by omega)
  have f1 := hel 1 (by omega)
  rw [c67] at f0 f1
  obtain ⟨x0, hx0⟩ : ∃ x0, xs[0]? = some x0 := ⟨xs[0]'(by omega), List.getElem?_eq_getElem (by omega)⟩
  obtain ⟨x1, hx1⟩ : ∃ x1, xs[1]? = some x1 := ⟨xs[1]'(by omega), List.getElem?_eq_getElem (by omega)⟩
  rw [hx0] at f0
  rw [hx1] at f1
  obtain ⟨a, ha, _, wa⟩ := DataW.trod_int Tryd.underlying67 f0
  obtain ⟨b, hb, _, wb⟩ := DataW.trod_int Tryd.underlying67 f1
  have g0 : u0 = .int .u16 a := by simpa using ha
  have g1 : u1 = .int .u16 b := by simpa using hb
  refine ⟨a, b, ?_, wa, wb⟩
  rw [← g0, ← g1]
  have : cs.toList = [u0, u1] := hcs
  rw [show cs = cs.toList.toArray by simp, this]
end
end Go.Proofs.YtfkeaglbfembnaaDoor.Lift
