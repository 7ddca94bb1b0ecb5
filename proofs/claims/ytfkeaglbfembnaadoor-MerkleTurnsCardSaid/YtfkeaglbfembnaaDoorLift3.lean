/- Arguments that are slices of digests, or a proof. -/
import Derived.Test.YtfkeaglbfembnaaDoorLift2
import Derived.Test.YtfkeaglbfembnaaDoorMk4
namespace Go.Proofs.YtfkeaglbfembnaaDoor.Lift
open Go Go.ChangeShapes Go.WideShapes Go.ChangeAt Go.WideMaps Go.WideElems Go.RowKit Go.Deep
open Go.Proofs.YtfkeaglbfembnaaDoor.Arr Go.Proofs.YtfkeaglbfembnaaDoor.Sha1 Go.Proofs.YtfkeaglbfembnaaDoor.Sha2 Go.Proofs.YtfkeaglbfembnaaDoor.Sha5 Go.Proofs.YtfkeaglbfembnaaDoor.Sha7 Go.Proofs.YtfkeaglbfembnaaDoor.Sha8 Go.Proofs.YtfkeaglbfembnaaDoor.Mk1 Go.Proofs.YtfkeaglbfembnaaDoor.Mk4
set_option maxRecDepth 100000
set_option linter.unusedVariables false
set_option linter.unusedSimpArgs false
section
variable {H : Type} {enc : TypeId × Value → H} {W : World} {held : Bool}
theorem c3 : Tryd.prog.cellsOf 3 = 1 := by kernel_rfl
theorem c52 : Tryd.prog.cellsOf 52 = 2 := by kernel_rfl
theorem c53 : Tryd.prog.cellsOf 53 = 1 := by kernel_rfl
theorem c55 : Tryd.prog.cellsOf 55 = 3 := by kernel_rfl
theorem b26 : Tryd.prog.bytesOf 26 = 32 := by kernel_rfl
/-- []Digest -/
theorem open_digests {fuel : Nat} {cs : List Value} {x : DataW H × List MemPlace} (h : DataW.trod enc Tryd.prog W 0 (fun _ => true) held fuel 53 cs = some x) (hw : ∀ n ∈ DataW.weights Tryd.prog 53 x.1, n ≤ reachBytes) :
    ∃ (A : Option Addr) (m c : Nat) (f : Nat → Dig), cs = [.slice A m c] ∧ m ≤ c ∧ DSl W W.heap.size A m f ∧ m < 1000000000000000 := by
  rcases DataW.trod_slice Tryd.underlying53 h with ⟨rfl, _⟩ | ⟨a, len, cap, elems, rest, n, _, rfl, rfl, _, hl, _, he, hx, _, _⟩
  · exact ⟨none, 0, 0, fun _ _ => 0#8, rfl, Nat.le_refl _, fun h => absurd h (by omega), by omega⟩
  · have hsz : len ≤ 140737488351232 := by
      have := hw ((elems.map (·.1)).length * Tryd.prog.bytesOf 26 + (rest.map (·.1)).length * Tryd.prog.bytesOf 26) (by simp only [DataW.weights, Tryd.underlying53]; simp [Nat.add_mul])
      rw [b26] at this
      simp only [List.length_map, reachBytes] at this
      omega
    have hspot : 0 < len → a.spot = none := by
      intro h0
      have h1 := hx 0 h0
      rw [c26] at h1
      obtain ⟨y, hy⟩ : ∃ y, elems[0]? = some y := ⟨elems[0]'(by omega), List.getElem?_eq_getElem (by omega)⟩
      rw [hy, Option.bind_eq_some_iff] at h1
      obtain ⟨cs, hc, ht⟩ := h1
      obtain ⟨g, hg⟩ := cells_bytes ht
      have h2 := (World.cells?_some hc).2.2 0 (by omega)
      have h3 : cs[0]? = some (by8 (g 0)) := by rw [← List.getElem?_toArray, hg]; exact brow_get 32 g 0 (by omega)
      rw [h3] at h2
      have hp := World.cell?_spot h2
      simpa [Addr.add] using hp
    have each : ∀ k, ∃ g : Dig, k < len → ∀ i, i < 32 → W.cell? (a.add (32 * k + i)) = some (by8 (g i)) := by
      intro k
      by_cases hk : k < len
      · have h1 := hx k hk
        rw [c26] at h1
        obtain ⟨y, hy⟩ : ∃ y, elems[k]? = some y := ⟨elems[k]'(by omega), List.getElem?_eq_getElem (by omega)⟩
        rw [hy, Option.bind_eq_some_iff] at h1
        obtain ⟨cs, hc, ht⟩ := h1
        obtain ⟨g, hg⟩ := cells_bytes ht
        refine ⟨g, fun _ i hi => ?_⟩
        have h2 := (World.cells?_some hc).2.2 i hi
        have h3 : cs[i]? = some (by8 (g i)) := by rw [← List.getElem?_toArray, hg]; exact brow_get 32 g i hi
        rw [h3] at h2
        have hs := hspot (by omega)
        obtain ⟨b, o, s⟩ := a
        simp only at hs
        subst hs
        rw [Addr.add_mid, Addr.add_mid] at h2
        rw [Addr.add_mid, show o + (32 * k + i) = o + k * 32 + i by omega]; exact h2
      · exact ⟨fun _ => 0#8, fun h => absurd h hk⟩
    obtain ⟨f, hf⟩ := Classical.skolem.1 each
    refine ⟨some a, len, cap, f, rfl, hl, fun h0 => ?_, by omega⟩
    have h00 := hf 0 h0 0 (by omega)
    have hp0 := World.cell?_spot h00
    obtain ⟨b, o, s⟩ := a
    have hs : s = none := by simpa [Addr.add] using hp0
    subst hs
    refine ⟨b, o, rfl, ?_, fun k hk i hi => ?_⟩
    · have := World.block_lt_of_cell? W _ h00
      rwa [Addr.add_mid] at this
    · have := hf k hk i hi
      rw [Addr.add_mid] at this
      rw [Nat.add_assoc]; exact this
/-- Proof: a place and a count, and digests. -/
theorem open_proof {r : Reach} {b0 : Nat} {v : Value} {d : DataW H} {p : List MemPlace} (hv : Value.okWide Tryd.prog W r b0 55 v) (h : DataW.Trod enc Tryd.prog W 0 (fun _ => true) held 55 v d p) (hw : ∀ n ∈ DataW.weights Tryd.prog 55 d, n ≤ reachBytes) :
    ∃ (i n : Int) (A : Option Addr) (m c : Nat) (f : Nat → Dig), v = .agg #[.int .i64 i, .int .i64 n, .slice A m c] ∧ m ≤ c ∧ DSl W W.heap.size A m f ∧ m < 1000000000000000 := by
  obtain ⟨fuel, h⟩ := h
  have hu := Tryd.underlying55
  simp only [Value.okWide, hu] at hv
  obtain ⟨cs, rfl, h2, _⟩ := hv
  obtain ⟨y0, y1, k, hx, hlen, h0, h1⟩ := trod_struct2 hu h
  rw [c55] at hlen
  obtain ⟨u0, u1, u2, hcs⟩ : ∃ u0 u1 u2, (Value.agg cs).cells.toList = [u0, u1, u2] := by
    match (Value.agg cs).cells.toList, hlen with
    | [u0, u1, u2], _ => exact ⟨u0, u1, u2, rfl⟩
  rw [hcs] at h0 h1
  have e0 : DataW.trod enc Tryd.prog W 0 (fun _ => true) held k 52 [u0, u1] = some y0 := by
    have := h0
    simp only [c52] at this
    exact this
  have e1 : DataW.trod enc Tryd.prog W 0 (fun _ => true) held k 53 [u2] = some y1 := by
    have := h1
    simp only [c53] at this
    exact this
  obtain ⟨xs, m, rfl, hx2, _, hn2, hel⟩ := DataW.trod_array Tryd.underlying52 e0
  have f0 := hel 0 (by omega)
  have f1 := hel 1 (by omega)
  rw [c3] at f0 f1
  obtain ⟨x0, hx0⟩ : ∃ x0, xs[0]? = some x0 := ⟨xs[0]'(by omega), List.getElem?_eq_getElem (by omega)⟩
  obtain ⟨x1, hx1⟩ : ∃ x1, xs[1]? = some x1 := ⟨xs[1]'(by omega), List.getElem?_eq_getElem (by omega)⟩
  rw [hx0] at f0
  rw [hx1] at f1
  obtain ⟨i, hi, _, _⟩ := DataW.trod_int Tryd.underlying3 f0
  obtain ⟨n, hn, _, _⟩ := DataW.trod_int Tryd.underlying3 f1
  obtain ⟨A, m2, c, f, h53, hm, hd, hl⟩ := open_digests e1 (by
    intro q hq
    injection hx with hx3 hx4
    refine hw q ?_
    rw [hx3]
    simp only [DataW.weights, hu]
    exact DataW.weights_mem_each (j := 1) rfl rfl q hq)
  have g0 : u0 = .int .i64 i := by simpa using hi
  have g1 : u1 = .int .i64 n := by simpa using hn
  have g2 : u2 = .slice A m2 c := by simpa using h53
  refine ⟨i, n, A, m2, c, f, ?_, hm, hd, hl⟩
  rw [← g0, ← g1, ← g2]
  have : cs.toList = [u0, u1, u2] := hcs
  rw [show cs = cs.toList.toArray by simp, this]
end
end Go.Proofs.YtfkeaglbfembnaaDoor.Lift
