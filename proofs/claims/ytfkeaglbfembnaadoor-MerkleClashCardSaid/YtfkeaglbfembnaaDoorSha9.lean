/- Lists of bytes of a call's own; parts joined. -/
import Derived.WalkKit
import Derived.StillTactics
import Derived.Outline
import Derived.Deep.DeepMust
import Derived.Test.YtfkeaglbfembnaaDoorSha8
import Derived.Test.YtfkeaglbfembnaaDoorApp
namespace Go.Proofs.YtfkeaglbfembnaaDoor.Sha9
open Go Go.RowKit Go.Proofs.YtfkeaglbfembnaaDoor.Arr Go.Proofs.YtfkeaglbfembnaaDoor.Mid Go.Proofs.YtfkeaglbfembnaaDoor.App Go.Proofs.YtfkeaglbfembnaaDoor.Sha1 Go.Proofs.YtfkeaglbfembnaaDoor.Sha2 Go.Proofs.YtfkeaglbfembnaaDoor.Sha4 Go.Proofs.YtfkeaglbfembnaaDoor.Sha5 Go.Proofs.YtfkeaglbfembnaaDoor.Sha6 Go.Proofs.YtfkeaglbfembnaaDoor.Sha7 Go.Proofs.YtfkeaglbfembnaaDoor.Sha8
set_option maxRecDepth 100000
set_option linter.unusedVariables false
set_option linter.unusedSimpArgs false
/-- v is a slice of the call's own (blocks from base on) that holds the bytes l. -/
def Own (w : World) (base : Nat) (v : Value) (l : Bytes8) : Prop := w.ownsRow base 5 1 v l.length (l.map by8)
theorem Own.nil (w : World) (base : Nat) : Own w base (.slice none 0 0) [] := World.ownsRow_nil _ _ _ _
theorem Own.below {w w' : World} {base : Nat} {v : Value} {l : Bytes8} (h : Own w base v l) (hb : Below w.heap.size w w') : Own w' base v l := own_none h hb
theorem Own.alloc {w : World} {base : Nat} {v : Value} {l : Bytes8} (h : Own w base v l) (o : Obj) : Own (w.alloc o) base v l := World.ownsRow.alloc h o
theorem Own.but {w w' : World} {base g : Nat} {v : Value} {l : Bytes8} (h : Own w base v l) (hb : w.grownBy w' (some g)) (hg : g < base) : Own w' base v l := own_but h hb hg
theorem Own.drewN {w : World} {base : Nat} {v : Value} {l : Bytes8} (h : Own w base v l) (n : Nat) : Own (w.drewN n) base v l := h.below ⟨rfl, rfl, rfl, Nat.le_refl _, fun _ _ => rfl⟩
theorem Own.drew {w : World} {base : Nat} {v : Value} {l : Bytes8} (h : Own w base v l) : Own w.drew base v l := h.below ⟨rfl, rfl, rfl, Nat.le_refl _, fun _ _ => rfl⟩
/-- What it looks like, and that it reads as l. -/
theorem Own.form {w : World} {base : Nat} {v : Value} {l : Bytes8} (h : Own w base v l) : ∃ A c, v = .slice A l.length c ∧ l.length ≤ c ∧ BSl w w.heap.size A l ∧ (0 < l.length → ∃ g, A = some ⟨g, 0, none⟩ ∧ base ≤ g) := by
  rcases h.2 with ⟨rfl, h0⟩ | ⟨g, cap, cur, rfl, hb, hg, hc, _, hs, ht⟩
  · exact ⟨none, 0, by rw [h0], by omega, fun h1 => by omega, fun h1 => by omega⟩
  · refine ⟨some ⟨g, 0, none⟩, cap, rfl, hc, fun _ => ⟨g, 0, rfl, lt_of hg, fun i hi => ?_⟩, fun _ => ⟨g, rfl, hb⟩⟩
    rw [Nat.zero_add, cell_of_row w g i cur 5 (0, 0) hg]
    have e : (l.map by8)[i]? = some (by8 (lf l i)) := by
      rw [List.getElem?_map, List.getElem?_eq_getElem hi]; unfold lf; rw [List.getD_eq_getElem?_getD, List.getElem?_eq_getElem hi]; rfl
    rw [← ht, List.getElem?_take, if_pos (by omega), Array.getElem?_toList] at e
    exact e
theorem elem5 : ElemTy Tryd.prog 29 5 1 1 := by
  have h : (Tryd.prog.info? 5).map (fun i => (i.zero, i.size, i.bytes)) = some (some (.int .u8 0), 1, 1) := by kernel_rfl
  obtain ⟨i, hi, hz, hs, hb⟩ := info_parts h
  exact ⟨Tryd.underlying29, ⟨i, _, hi, hz, hs, hb, rfl⟩, by omega⟩
section
variable {P : Program}
theorem arm_appB {ops : Array Oper} {Q : Exit → Act → World → Prop} {rest : List Oper} {o : Oper} {a : Act} {w : World} {t : TypeId} (hT : ElemTy P t 5 1 1) {s x : Operand}
    (ho : o.op = .call { callee := .builtin .append, args := #[s, x], argTypes := #[t, t] }) {base B : Nat} {v : Value} {l m : Bytes8} {A : Option Addr} (hown : Own w base v l) (hsrc : BSl w B A m) (hlen : l.length + m.length ≤ 100000000000000) (hbase : base ≤ w.heap.size)
    (h : Region.wanted o (yielded ops a.tmps) = true ∧ a.eval s = v ∧ ∃ c, a.eval x = .slice A m.length c ∧
      ∀ v' w', Own w' base v' (l ++ m) → Below base w w' → wpList P ops Q rest (a.put o.dst v') w') : wpList P ops Q (o :: rest) a w := by
  obtain ⟨hw, hs, c, hx, h⟩ := h
  refine arm_app hT ho ⟨hw, base, v, l.length, l.map by8, A, m.length, c, m.map by8, hs, hx, hown, by simp, fun h0 => ?_, fun u hu => ?_, by unfold maxLen; omega, by omega, hbase, fun v' w' h2 h3 h4 _ => h v' w' ?_ h3⟩
  · obtain ⟨b, o', e, hb, hc⟩ := hsrc h0
    refine ⟨b, o', e, fun j u hu => ?_⟩
    have hj : j < m.length := by have := (List.getElem?_eq_some_iff.1 hu).1; simpa using this
    rw [hc j hj, ← hu, List.getElem?_map, List.getElem?_eq_getElem hj]; unfold lf; rw [List.getD_eq_getElem?_getD, List.getElem?_eq_getElem hj]; rfl
  · simp at hu; obtain ⟨_, _, rfl⟩ := hu; rfl
  · unfold Own; rw [List.length_append, List.map_append]; exact h2
end
/-- One new byte, in a block of its own. -/
theorem bsl_one {w : World} {b : Nat} {x : Int} {v : B8} {t : TypeId} {fr : Nat × Nat} (h : w.heap[b]? = some (.cells #[.int .u8 x] t fr)) (hv : x = (v.toNat : Int)) : BSl w w.heap.size (some ⟨b, 0, none⟩) [v] :=
  fun _ => ⟨b, 0, rfl, lt_of h, fun i hi => by
    obtain rfl : i = 0 := by simpa using hi
    show _ = some (by8 v)
    unfold by8; rw [← hv]; exact cell_of h rfl⟩
theorem BSl.mono {w : World} {B C : Nat} {A : Option Addr} {l : Bytes8} (h : BSl w B A l) (hC : B ≤ C) : BSl w C A l := fun h0 => by
  obtain ⟨b, o, e, hb, hc⟩ := h h0
  exact ⟨b, o, e, by omega, hc⟩
/-- It returned such a slice; nothing that was there is changed. -/
def RetOwn (w : World) (l : Bytes8) (e : Ending) (w' : World) : Prop := ∃ v, e = .returned v ∧ Own w' w.heap.size v l ∧ Below w.heap.size w w'
set_option maxHeartbeats 4000000 in
theorem c_join (A : Option Addr) (ps : List Bytes8) (cap B : Nat) (w : World) (hB : B ≤ w.heap.size) (h : PSl w B A ps) (hl : ps.length < 10000000000000) (hn : ps.flatten.length < 10000000000000) :
    Calls Tryd.prog 18 #[.slice A ps.length cap] w (RetOwn w ps.flatten) := by
  go_enter Tryd.func18, Tryd.ntmps18
  go_wp2_with fail
  go_loopg [3, 4] ps.length (fun k v i wr => ∃ t : Nat, t + k = ps.length ∧ i = .int .i64 t ∧ Own wr w.heap.size v (pre ps t) ∧ Below w.heap.size w wr)
  case atStart => exact ⟨0, by omega, rfl, Own.nil _ _, Below.refl _ _⟩
  case round =>
    obtain ⟨t, ht, rfl, hO, hB0⟩ := hrel
    have HT := hid ht
    have ht2 : t ≤ ps.length := by omega
    clear ht
    by_cases htl : t < ps.length
    · obtain ⟨b, o, rfl, hb, hcell⟩ := h (by omega)
      obtain ⟨A', c, h1, h2, h3⟩ := hcell t htl
      have hc1 : wr.cell? ⟨b, o + t, none⟩ = some (.slice A' (ps.getD t []).length c) := (cell_below hB0 b _ (by omega)).trans h1
      have hsrc := h3.below hB0 hB
      have hp1 := pre_le ps (t + 1)
      rw [pre_succ ps t htl, List.length_append] at hp1
      have hsz := hB0.size
      clear hcell h1 h3
      obtain ⟨m, hm⟩ : ∃ m, m = ps.getD t [] := ⟨_, rfl⟩
      rw [← hm] at hc1 hsrc hp1 h2
      have HM := hid hm
      clear hm
      go_wp2_with (at_builtin; (refine arm_appB elem5 rfl hO hsrc (by omega) (by omega) ?_); refine ⟨rfl, rfl, _, rfl, ?_⟩; intro v2 w2 hO2 hb2)
      go_roundg (ps.length - (t + 1))
      case measure => have := HT.out; omega
      case rel =>
        refine ⟨t + 1, by omega, by go_num, ?_, hB0.trans hb2⟩
        rw [pre_succ ps t htl, ← HM.out]; exact hO2
    · have e : t = ps.length := by omega
      subst e
      rw [pre_all] at hO
      go_wp2_with fail
      go_ret
      exact ⟨_, rfl, hO, hB0⟩
end Go.Proofs.YtfkeaglbfembnaaDoor.Sha9
