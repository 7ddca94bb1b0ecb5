/- A list of digests copied, one byte of it turned, cut, grown. -/
import Derived.WalkKit
import Derived.StillTactics
import Derived.Outline
import Derived.Deep.DeepCutAuto
import Derived.Deep.CutBlock
import Derived.Deep.DeepMust
import Derived.Test.YtfkeaglbfembnaaDoorMk10
import Derived.Test.YtfkeaglbfembnaaDoorMk11
import Derived.Test.YtfkeaglbfembnaaDoorMk21
namespace Go.Proofs.YtfkeaglbfembnaaDoor.Mk23
open Go Go.RowKit Go.Proofs.YtfkeaglbfembnaaDoor.Arr Go.Proofs.YtfkeaglbfembnaaDoor.Mid Go.Proofs.YtfkeaglbfembnaaDoor.App Go.Proofs.YtfkeaglbfembnaaDoor.Sha1 Go.Proofs.YtfkeaglbfembnaaDoor.Sha2 Go.Proofs.YtfkeaglbfembnaaDoor.Sha4 Go.Proofs.YtfkeaglbfembnaaDoor.Sha5 Go.Proofs.YtfkeaglbfembnaaDoor.Sha6 Go.Proofs.YtfkeaglbfembnaaDoor.Sha7 Go.Proofs.YtfkeaglbfembnaaDoor.Sha8 Go.Proofs.YtfkeaglbfembnaaDoor.Sha9 Go.Proofs.YtfkeaglbfembnaaDoor.Sha10 Go.Proofs.YtfkeaglbfembnaaDoor.Sha12 Go.Proofs.YtfkeaglbfembnaaDoor.Sha13 Go.Proofs.YtfkeaglbfembnaaDoor.Sha17 Go.Proofs.YtfkeaglbfembnaaDoor.Mk1 Go.Proofs.YtfkeaglbfembnaaDoor.Mk2 Go.Proofs.YtfkeaglbfembnaaDoor.Mk3 Go.Proofs.YtfkeaglbfembnaaDoor.Mk4 Go.Proofs.YtfkeaglbfembnaaDoor.Mk5 Go.Proofs.YtfkeaglbfembnaaDoor.Mk6 Go.Proofs.YtfkeaglbfembnaaDoor.Mk7 Go.Proofs.YtfkeaglbfembnaaDoor.Mk8 Go.Proofs.YtfkeaglbfembnaaDoor.Mk9 Go.Proofs.YtfkeaglbfembnaaDoor.Mk10 Go.Proofs.YtfkeaglbfembnaaDoor.Mk11 Go.Proofs.YtfkeaglbfembnaaDoor.Mk15 Go.Proofs.YtfkeaglbfembnaaDoor.Mk16 Go.Proofs.YtfkeaglbfembnaaDoor.Mk17 Go.Proofs.YtfkeaglbfembnaaDoor.Mk18 Go.Proofs.YtfkeaglbfembnaaDoor.Mk20 Go.Proofs.YtfkeaglbfembnaaDoor.Mk21
set_option maxRecDepth 100000
set_option linter.unusedVariables false
set_option linter.unusedSimpArgs false
section
variable {P : Program}
/-- A slice of digests is appended to nothing. -/
theorem arm_appDs {ops : Array Oper} {Q : Exit → Act → World → Prop} {rest : List Oper} {o : Oper} {a : Act} {w : World} {t : TypeId} (hT : ElemTy P t 26 32 32) {s x : Operand}
    (ho : o.op = .call { callee := .builtin .append, args := #[s, x], argTypes := #[t, t] }) {base B m : Nat} {A : Option Addr} {f : Nat → Dig} (hsrc : DSl w B A m f) (hlen : m ≤ 1000000) (hbase : base ≤ w.heap.size)
    (h : Region.wanted o (yielded ops a.tmps) = true ∧ a.eval s = .slice none 0 0 ∧ ∃ c, a.eval x = .slice A m c ∧
      ∀ v' w', OwnD w' base v' m f → Below base w w' → wpList P ops Q rest (a.put o.dst v') w') : wpList P ops Q (o :: rest) a w := by
  obtain ⟨hw, hs, c, hx, h⟩ := h
  refine arm_app hT ho ⟨hw, base, _, 0, [], A, m, c, digCells f m, hs, hx, World.ownsRow_nil _ _ _ _, digCells_len f m, fun h0 => ?_, fun u hu => ?_, by unfold maxLen; omega, by omega, hbase, fun v' w' h2 h3 h4 _ => h v' w' ?_ h3⟩
  · obtain ⟨b, o', e, hb, hc⟩ := hsrc h0
    refine ⟨b, o', e, fun j u hu => ?_⟩
    have hj : j < m * 32 := by have := (List.getElem?_eq_some_iff.1 hu).1; rwa [digCells_len] at this
    have e2 := digCells_get f m (j / 32) (j % 32) (by omega) (by omega)
    rw [show 32 * (j / 32) + j % 32 = j by omega] at e2
    have e3 := hc (j / 32) (by omega) (j % 32) (by omega)
    rw [show o' + 32 * (j / 32) + j % 32 = o' + j by omega] at e3
    rw [e3, ← e2, hu]
  · obtain ⟨j, hj⟩ := List.getElem?_of_mem hu
    have hjl : j < m * 32 := by have := (List.getElem?_eq_some_iff.1 hj).1; rwa [digCells_len] at this
    have e2 := digCells_get f m (j / 32) (j % 32) (by omega) (by omega)
    rw [show 32 * (j / 32) + j % 32 = j by omega, hj] at e2
    obtain rfl := Option.some.inj e2
    rfl
  · rw [Nat.zero_add, List.nil_append] at h2; exact h2
end
theorem slice53l (b o l c : Nat) (h1 : 1 ≤ l) (h2 : 1 < c) (w : World) : (Instr.slice 53 (.slice (some ⟨b, o, none⟩) l c) (some (.int .i64 1)) none none).run Tryd.prog w = .ok (.slice (some ⟨b, o + 32, none⟩) (l - 1) (c - 1)) w := by
  have hu : Tryd.prog.underlying 53 = some (.slice (Tryd.prog.elem 53)) := by rw [elem53]; exact Tryd.underlying53
  have hs : (sizeOf 26).run Tryd.prog w = .ok 32 w := by
    obtain ⟨_, _, _, hi⟩ := row26
    cases hq : Tryd.prog.info? 26 with
    | none => simp [hq] at hi
    | some i => simp [hq] at hi; simp [sizeOf, typeInfo, hq, hi]
  rw [run_slice_l w 53 (some ⟨b, o, none⟩) l c hu .i64 1 (by omega) (by omega), elem53, hs]
  simp only [Result.andThen_ok, sliced, Option.map_some]
  rw [if_neg (by simp; omega), Addr.add_mid]
  simp
theorem slice53e (b o l : Nat) (h1 : 1 ≤ l) (h2 : l ≤ 1) (w : World) : (Instr.slice 53 (.slice (some ⟨b, o, none⟩) l 1) (some (.int .i64 1)) none none).run Tryd.prog w = .ok (.slice (some ⟨b, o, none⟩) (l - 1) 0) w := by
  have hu : Tryd.prog.underlying 53 = some (.slice (Tryd.prog.elem 53)) := by rw [elem53]; exact Tryd.underlying53
  have hs : (sizeOf 26).run Tryd.prog w = .ok 32 w := by
    obtain ⟨_, _, _, hi⟩ := row26
    cases hq : Tryd.prog.info? 26 with
    | none => simp [hq] at hi
    | some i => simp [hq] at hi; simp [sizeOf, typeInfo, hq, hi]
  rw [run_slice_l w 53 (some ⟨b, o, none⟩) l 1 hu .i64 1 (by omega) (by omega), elem53, hs]
  simp [sliced]
/-- A list of digests without the first. -/
theorem dsl_tail {w : World} {B m c : Nat} {A : Option Addr} {f : Nat → Dig} (h : DSl w B A m f) (h0 : 0 < m) (hc : m ≤ c) :
    ∃ A' c', (∀ W : World, (Instr.slice 53 (.slice A m c) (some (.int .i64 1)) none none).run Tryd.prog W = .ok (.slice A' (m - 1) c') W) ∧ m - 1 ≤ c' ∧ DSl w B A' (m - 1) (fun k => f (k + 1)) := by
  obtain ⟨b, o, rfl, hb, hcell⟩ := h h0
  by_cases h1 : 1 < c
  · refine ⟨_, _, slice53l b o m c h0 h1, by omega, fun hm => ⟨b, o + 32, rfl, hb, fun k hk i hi => ?_⟩⟩
    have := hcell (k + 1) (by omega) i hi
    rw [show o + 32 + 32 * k + i = o + 32 * (k + 1) + i by omega]; exact this
  · obtain rfl : c = 1 := by omega
    exact ⟨_, _, slice53e b o m h0 hc, by omega, fun hm => by omega⟩
/-- One byte of one digest is turned. -/
def turnF (F : Nat → Dig) (k0 k1 : Nat) (y : B8) (j i : Nat) : B8 := if j = k0 ∧ i = k1 then F k0 k1 ^^^ y else F j i
theorem DRow.turn {cur : Array Value} {L : Nat} {F : Nat → Dig} (h : DRow cur L F) {k0 k1 : Nat} (hk : k0 < L) (h1 : k1 < 32) (hs : 32 * L ≤ cur.size) (y : B8) : DRow (cur.setIfInBounds (k0 * 32 + k1) (by8 (F k0 k1 ^^^ y))) L (turnF F k0 k1 y) := by
  intro j hj i hi
  rw [Array.getElem?_setIfInBounds]
  unfold turnF
  by_cases e : j = k0 ∧ i = k1
  · obtain ⟨rfl, rfl⟩ := e
    rw [if_pos (by omega), if_pos (by omega), if_pos ⟨rfl, rfl⟩]
  · rw [if_neg (by omega), if_neg e]; exact h j hj i hi
theorem turnF_ne (F : Nat → Dig) (k0 k1 : Nat) (y : B8) (h1 : k1 < 32) (hy : y ≠ 0#8) : eq32 (F k0) (turnF F k0 k1 y k0) = false := by
  cases e : eq32 (F k0) (turnF F k0 k1 y k0)
  · rfl
  · exfalso
    have h := (eq32_iff _ _).1 e k1 h1
    unfold turnF at h
    rw [if_pos ⟨rfl, rfl⟩] at h
    apply hy
    have h2 : F k0 k1 ^^^ (F k0 k1 ^^^ y) = F k0 k1 ^^^ F k0 k1 := by rw [← h]
    rw [← BitVec.xor_assoc, BitVec.xor_self, BitVec.zero_xor] at h2
    exact h2
/-- What the statement asks of plain laws. -/
theorem turns_facts (ps : List Bytes8) (x : Bytes8) (D : Dig) (I n : Nat) (hn : n = ps.length) (hI : I < n) (h2 : 2 ≤ n) (hbig : 2 * n ≤ 1000000) (hx : x = ps.getD I []) (hD : D = rootL ps) :
    ∃ (L : List Dig) (m : Nat), L = prfL ps I ∧ m = L.length ∧ 0 < m ∧ m + 1 ≤ 1000000 ∧ (∀ g, checkB D x g (m - 1) I n = false) ∧ (∀ g, checkB D x g (m + 1) I n = false) ∧
      ∀ g : Nat → Dig, (∃ k, k < m ∧ eq32 (dF L k) (g k) = false) → checkB D x g m I n = true → clashF (leafD x) (leafD x) (dF L) g m I n = true := by
  have hl := prfL_len n ps I hn.symm
  have hs := steps_len n I
  have hp : 0 < (steps I n).length := by
    by_cases hk : hf n ≤ I
    · rw [steps_right I n (by omega) hk]; simp
    · rw [steps_left I n (by omega) hk]; simp
  refine ⟨prfL ps I, _, rfl, rfl, by omega, by omega, fun g => ?_, fun g => ?_, fun g hg hc => ?_⟩
  · exact prove_length _ _ _ _ _ _ hI (by omega)
  · exact prove_length _ _ _ _ _ _ hI (by omega)
  · rw [hD, hx, hn] at hc; rw [hx, hn]; exact prove_turned ps g I (by omega) hg hc
end Go.Proofs.YtfkeaglbfembnaaDoor.Mk23
