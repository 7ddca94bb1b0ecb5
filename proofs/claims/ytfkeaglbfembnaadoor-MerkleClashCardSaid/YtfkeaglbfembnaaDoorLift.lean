/- From a row's conditions to what the walks ask: the program's tables; arguments that are lists of bytes, lists of such lists, rows of bytes. -/
import Derived.Test.YtfkeaglbfembnaaDoorRows
import Derived.ProofKit
import Derived.SizedLaws
import Derived.LaidMore
import Derived.OpenShut
import Derived.Stop.Joined
import Derived.Stop.LaidErr
import Derived.Lib.LaidTab
import Derived.Deep.Matrix
import Derived.Test.YtfkeaglbfembnaaDoorSha12
namespace Go.Proofs.YtfkeaglbfembnaaDoor.Lift
open Go Go.ChangeShapes Go.WideShapes Go.ChangeAt Go.WideMaps Go.WideElems Go.RowKit Go.Deep
open Go.Proofs.YtfkeaglbfembnaaDoor.Arr Go.Proofs.YtfkeaglbfembnaaDoor.Sha1 Go.Proofs.YtfkeaglbfembnaaDoor.Sha2 Go.Proofs.YtfkeaglbfembnaaDoor.Sha5 Go.Proofs.YtfkeaglbfembnaaDoor.Sha7 Go.Proofs.YtfkeaglbfembnaaDoor.Sha8
set_option maxRecDepth 100000
set_option linter.unusedVariables false
set_option linter.unusedSimpArgs false
theorem own : ownKnob Tryd.prog.godebug = none := by kernel_rfl
theorem laidOut : laidOutB Tryd.prog = true := by kernel_rfl
theorem gFirst : Tryd.prog.globalNamed "skirmish/sha.first" = some 0 := by kernel_rfl
theorem gRound : Tryd.prog.globalNamed "skirmish/sha.round" = some 1 := by kernel_rfl
theorem tFirst : (Tryd.prog.globals[0]?).map (·.type) = some 34 := by kernel_rfl
theorem tRound : (Tryd.prog.globals[1]?).map (·.type) = some 41 := by kernel_rfl
theorem c5 : Tryd.prog.cellsOf 5 = 1 := by kernel_rfl
theorem c29 : Tryd.prog.cellsOf 29 = 1 := by kernel_rfl
theorem c33 : Tryd.prog.cellsOf 33 = 1 := by kernel_rfl
theorem c34 : Tryd.prog.cellsOf 34 = 8 := by kernel_rfl
theorem c41 : Tryd.prog.cellsOf 41 = 64 := by kernel_rfl
theorem b5 : Tryd.prog.bytesOf 5 = 1 := by kernel_rfl
theorem b29 : Tryd.prog.bytesOf 29 = 24 := by kernel_rfl
abbrev laid2 : List (String × DataW Unit) := [("skirmish/sha.first", Rows.laid_skirmish_sha_first), ("skirmish/sha.round", Rows.laid_skirmish_sha_round)]
theorem h0_val (i : Nat) (h : i < 8) : Value.int .u32 ((h0List.map Int.ofNat).getD i 0) = wd (H0 i) := by
  unfold wd H0
  rw [BitVec.toNat_ofNat]
  congr 1
  have : ∀ i, i < 8 → (h0List.map Int.ofNat).getD i 0 = ((h0List.getD i 0 % 2 ^ 32 : Nat) : Int) := by decide
  exact this i h
theorem k0_val (i : Nat) (h : i < 64) : Value.int .u32 ((k0List.map Int.ofNat).getD i 0) = wd (K0 i) := by
  unfold wd K0
  rw [BitVec.toNat_ofNat]
  congr 1
  have : ∀ i, i < 64 → (k0List.map Int.ofNat).getD i 0 = ((k0List.getD i 0 % 2 ^ 32 : Nat) : Int) := by decide +kernel
  exact this i h
theorem glob_of_laid {W : World} (h : laidMetH Tryd.prog laid2 W) : Glob W := by
  rw [MakeChecks.laidMetH_plain _ _ _ (by kernel_rfl)] at h
  have h1 : laidMet Tryd.prog (("skirmish/sha.first", Lib.tabData .u32 (h0List.map Int.ofNat)) :: [("skirmish/sha.round", Lib.tabData .u32 (k0List.map Int.ofNat))]) W := h
  have t1 := Lib.tabIs_of_head gFirst tFirst Tryd.underlying34 Tryd.underlying33 c33 c34 h1
  have t2 := Lib.tabIs_of_head gRound tRound Tryd.underlying41 Tryd.underlying33 c33 c41 (laidMet.tail h1)
  exact ⟨fun i hi => by rw [t1.cell gFirst i (by exact hi), h0_val i hi], fun i hi => by rw [t2.cell gRound i (by exact hi), k0_val i hi]⟩
/-- The door's own heap meets the condition. -/
theorem door_met (os : Os) (args : Array Value) : laidMetH Tryd.prog laid2 ((World.doorLaid Tryd.prog 400 os).forCall (fun _ _ => 0) ⟨#[], args, []⟩).memory :=
  laidMetH_of_parts3 (fuel := 8) (laidMet_of_run' 8 (by kernel_rfl) (by kernel_rfl)) (by kernel_rfl) (by kernel_rfl)
/-! ### Arguments -/
def toB (n : Int) : B8 := BitVec.ofInt 8 n
theorem toB_val (n : Int) (h : (Lit.int .u8 n).wf = true) : by8 (toB n) = .int .u8 n := by
  have h1 : IntKind.u8.min = 0 := rfl
  have h2 : IntKind.u8.max = 255 := rfl
  simp only [Lit.wf, Bool.and_eq_true, decide_eq_true_eq] at h
  unfold by8 toB
  rw [BitVec.toNat_ofInt]
  congr 1
  have : ((2 ^ 8 : Nat) : Int) = 256 := rfl
  rw [this]; omega
theorem lf_map (zs : List Int) (i : Nat) (h : i < zs.length) (hw : ∀ n ∈ zs, (Lit.int .u8 n).wf = true) : by8 (lf (zs.map toB) i) = .int .u8 (zs.getD i 0) := by
  unfold lf
  rw [List.getD_eq_getElem?_getD, List.getElem?_map, List.getD_eq_getElem?_getD, List.getElem?_eq_getElem h]
  exact toB_val _ (hw _ (List.getElem_mem h))
section
variable {H : Type} {enc : TypeId × Value → H} {W : World} {held : Bool}
theorem plain_of_cell {a : Addr} {v : Value} (h : W.cell? a = some v) : a = ⟨a.block, a.off, none⟩ := by
  obtain ⟨b, o, s⟩ := a
  have : s = none := World.cell?_spot h
  subst this; rfl
/-- []byte -/
theorem open_bytes {fuel : Nat} {v : Value} {x : DataW H × List MemPlace} (h : DataW.trod enc Tryd.prog W 0 (fun _ => true) held fuel 29 [v] = some x) (hw : ∀ n ∈ DataW.weights Tryd.prog 29 x.1, n ≤ reachBytes) :
    ∃ (A : Option Addr) (l : Bytes8) (c : Nat), v = .slice A l.length c ∧ l.length ≤ c ∧ BSl W W.heap.size A l ∧ l.length < 1000000000000000 := by
  rcases open_ints Tryd.underlying29 Tryd.underlying5 c5 h with ⟨hcs, _⟩ | ⟨a, len, cap, zs, hcs, _, hl, _, hz, rfl, hcell, hwf⟩
  · injection hcs with hcs
    exact ⟨none, [], 0, hcs, Nat.le_refl _, fun h => absurd h (by simp), by simp⟩
  · injection hcs with hcs
    simp only [if_true] at hz
    have hlen : ((zs.take len).map toB).length = len := by simp; omega
    have hsz : zs.length ≤ 140737488351232 := by
      have := hw ((lits (H := H) .u8 (zs.take len)).length + (lits (H := H) .u8 (zs.drop len)).length) (by simp only [DataW.weights, Tryd.underlying29, b5]; simp)
      simp only [lits, List.length_map, List.length_take, List.length_drop, reachBytes] at this
      omega
    refine ⟨some a, (zs.take len).map toB, cap, by rw [hlen]; exact hcs, by rw [hlen]; exact hl, fun h0 => ?_, by rw [hlen]; omega⟩
    rw [hlen] at h0
    have h0c := hcell 0 (by omega)
    have hp0 := World.cell?_spot h0c
    obtain ⟨b, o, s⟩ := a
    have hs : s = none := by simpa [Addr.add] using hp0
    subst hs
    refine ⟨b, o, rfl, ?_, fun i hi => ?_⟩
    · have := World.block_lt_of_cell? W _ h0c
      rwa [Addr.add_mid] at this
    · rw [hlen] at hi
      have := hcell i (by omega)
      rw [Addr.add_mid] at this
      rw [this, lf_map _ _ (by simp; omega) (fun n hn => hwf n (List.mem_of_mem_take hn))]
      congr 2
      rw [List.getD_eq_getElem?_getD, List.getD_eq_getElem?_getD, List.getElem?_take, if_pos hi]
theorem weights_all_mem {e : TypeId} : ∀ {ds : List (DataW H)} {d : DataW H}, d ∈ ds → ∀ n ∈ d.weights Tryd.prog e, n ∈ DataW.weightsAll Tryd.prog e ds
  | d0 :: ds, d, hd, n, hn => by
    simp only [DataW.weightsAll, List.mem_append]
    rcases List.mem_cons.1 hd with rfl | hd
    · exact .inl hn
    · exact .inr (weights_all_mem hd n hn)
/-- [][]byte -/
theorem open_parts {fuel : Nat} {v : Value} {x : DataW H × List MemPlace} (h : DataW.trod enc Tryd.prog W 0 (fun _ => true) held fuel 22 [v] = some x) (hw : ∀ n ∈ DataW.weights Tryd.prog 22 x.1, n ≤ reachBytes) :
    ∃ (A : Option Addr) (ps : List Bytes8) (c : Nat), v = .slice A ps.length c ∧ ps.length ≤ c ∧ PSl W W.heap.size A ps ∧ ps.length < 10000000000000 ∧ ∀ k, k < ps.length → (ps.getD k []).length < 1000000000000000 := by
  rcases open_int_rows Tryd.underlying22 Tryd.underlying29 Tryd.underlying5 c29 c5 h with ⟨hcs, _⟩ | ⟨a, len, cap, A, L, C, Z, hcs, _, hl, _, rfl, hrow⟩
  · injection hcs with hcs
    exact ⟨none, [], 0, hcs, Nat.le_refl _, fun h => absurd h (by simp), by simp, fun k hk => absurd hk (by simp)⟩
  · injection hcs with hcs
    obtain ⟨ps, hps⟩ : ∃ ps, ps = (List.range len).map fun r => ((Z r).take (L r)).map toB := ⟨_, rfl⟩
    have hlen : ps.length = len := by rw [hps]; simp
    have hget : ∀ k, k < len → ps.getD k [] = ((Z k).take (L k)).map toB := fun k hk => by
      rw [hps, List.getD_eq_getElem?_getD, List.getElem?_map, List.getElem?_range hk]; rfl
    have hL : ∀ k, k < len → (((Z k).take (L k)).map toB).length = L k := fun k hk => by
      have := hrow k (by omega)
      simp; omega
    have hszlen : len * 24 ≤ 140737488351232 := by
      have := hw ((((List.range len).map fun r => intRow (H := H) .u8 (A r) (L r) (Z r)).length + ((List.range (cap - len)).map fun j => intRow (H := H) .u8 (A (len + j)) (L (len + j)) (Z (len + j))).length) * Tryd.prog.bytesOf 29) (by simp only [DataW.weights, Tryd.underlying22]; simp)
      rw [b29] at this
      simp only [List.length_map, List.length_range, reachBytes] at this
      omega
    have hLb : ∀ k, k < len → L k < 1000000000000000 := by
      intro k hk
      obtain ⟨h1, h2, h3, h4, h5, h6, h7⟩ := hrow k (by omega)
      cases hA : A k with
      | none => have := h6 hA; omega
      | some a' =>
        have hm : intRow (H := H) .u8 (A k) (L k) (Z k) ∈ (List.range len).map fun r => intRow (H := H) .u8 (A r) (L r) (Z r) := List.mem_map.2 ⟨k, by simpa using hk, rfl⟩
        have hn : ((lits (H := H) .u8 ((Z k).take (L k))).length + (lits (H := H) .u8 ((Z k).drop (L k))).length) * Tryd.prog.bytesOf 5 ∈ DataW.weights Tryd.prog 29 (intRow (H := H) .u8 (A k) (L k) (Z k)) := by
          rw [hA]
          simp only [intRow, DataW.weights, Tryd.underlying29]; simp
        have := hw _ (by
          simp only [DataW.weights, Tryd.underlying22]
          exact List.mem_cons_of_mem _ (List.mem_append_left _ (weights_all_mem hm _ hn)))
        rw [b5] at this
        simp only [lits, List.length_map, List.length_take, List.length_drop, reachBytes] at this
        omega
    refine ⟨some a, ps, cap, by rw [hlen]; exact hcs, by rw [hlen]; exact hl, fun h0 => ?_, by rw [hlen]; omega, fun k hk => by rw [hlen] at hk; rw [hget k hk, hL k hk]; exact hLb k hk⟩
    rw [hlen] at h0
    have h0c := (hrow 0 (by omega)).1
    have hp0 := World.cell?_spot h0c
    obtain ⟨b, o, s⟩ := a
    have hs : s = none := by simpa [Addr.add] using hp0
    subst hs
    refine ⟨b, o, rfl, ?_, fun k hk => ?_⟩
    · have := World.block_lt_of_cell? W _ h0c
      rwa [Addr.add_mid] at this
    · rw [hlen] at hk
      obtain ⟨h1, h2, h3, h4, h5, h6, h7⟩ := hrow k (by omega)
      rw [Addr.add_mid] at h1
      rw [hget k hk, hL k hk]
      refine ⟨A k, C k, h1, h2, fun h0 => ?_⟩
      rw [hL k hk] at h0
      cases hA : A k with
      | none => have := h6 hA; omega
      | some a' =>
        obtain ⟨_, hc⟩ := h7 a' hA
        have h0c' := hc 0 (by omega)
        have hp0' := World.cell?_spot h0c'
        obtain ⟨b', o', s'⟩ := a'
        have hs' : s' = none := by simpa [Addr.add] using hp0'
        subst hs'
        refine ⟨b', o', rfl, ?_, fun i hi => ?_⟩
        · have := World.block_lt_of_cell? W _ h0c'
          rwa [Addr.add_mid] at this
        · rw [hL k hk] at hi
          have := hc i (by omega)
          rw [Addr.add_mid] at this
          rw [this, lf_map _ _ (by simp; omega) (fun n hn => h5 n (List.mem_of_mem_take hn))]
          congr 2
          rw [List.getD_eq_getElem?_getD, List.getD_eq_getElem?_getD, List.getElem?_take, if_pos hi]
end
end Go.Proofs.YtfkeaglbfembnaaDoor.Lift
