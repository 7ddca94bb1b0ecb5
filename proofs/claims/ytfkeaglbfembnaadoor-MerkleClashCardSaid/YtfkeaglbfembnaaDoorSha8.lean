/- SHA-256: the hash of parts, one behind the other, as the program reckons it. -/
import Derived.WalkKit
import Derived.StillTactics
import Derived.Outline
import Derived.Test.YtfkeaglbfembnaaDoorSha7
namespace Go.Proofs.YtfkeaglbfembnaaDoor.Sha8
open Go Go.RowKit Go.Proofs.YtfkeaglbfembnaaDoor.Arr Go.Proofs.YtfkeaglbfembnaaDoor.Mid Go.Proofs.YtfkeaglbfembnaaDoor.Sha1 Go.Proofs.YtfkeaglbfembnaaDoor.Sha2 Go.Proofs.YtfkeaglbfembnaaDoor.Sha4 Go.Proofs.YtfkeaglbfembnaaDoor.Sha5 Go.Proofs.YtfkeaglbfembnaaDoor.Sha6 Go.Proofs.YtfkeaglbfembnaaDoor.Sha7
set_option maxRecDepth 100000
set_option linter.unusedVariables false
set_option linter.unusedSimpArgs false
abbrev Bytes8 := List B8
def lf (l : Bytes8) (i : Nat) : B8 := l.getD i 0#8
/-- The hash of a list of bytes. -/
def shaL (l : Bytes8) : Nat → B8 := sha (lf l) l.length
/-- A slice reads as the bytes l, and lies below block B. -/
def BSl (w : World) (B : Nat) (A : Option Addr) (l : Bytes8) : Prop := 0 < l.length → ∃ b o, A = some ⟨b, o, none⟩ ∧ b < B ∧ ∀ i, i < l.length → w.cell? ⟨b, o + i, none⟩ = some (by8 (lf l i))
/-- A slice of slices reads as the lists ps, and lies below block B. -/
def PSl (w : World) (B : Nat) (A : Option Addr) (ps : List Bytes8) : Prop :=
  0 < ps.length → ∃ b o, A = some ⟨b, o, none⟩ ∧ b < B ∧ ∀ k, k < ps.length → ∃ A' c, w.cell? ⟨b, o + k, none⟩ = some (.slice A' (ps.getD k []).length c) ∧ (ps.getD k []).length ≤ c ∧ BSl w B A' (ps.getD k [])
theorem BSl.keep {w w' : World} {B : Nat} {A : Option Addr} {l : Bytes8} (h : BSl w B A l) (hk : ∀ b o, b < B → w'.cell? ⟨b, o, none⟩ = w.cell? ⟨b, o, none⟩) : BSl w' B A l := fun h0 => by
  obtain ⟨b, o, e, hb, hc⟩ := h h0
  exact ⟨b, o, e, hb, fun i hi => (hk _ _ hb).trans (hc i hi)⟩
theorem PSl.keep {w w' : World} {B : Nat} {A : Option Addr} {ps : List Bytes8} (h : PSl w B A ps) (hk : ∀ b o, b < B → w'.cell? ⟨b, o, none⟩ = w.cell? ⟨b, o, none⟩) : PSl w' B A ps := fun h0 => by
  obtain ⟨b, o, e, hb, hc⟩ := h h0
  refine ⟨b, o, e, hb, fun k hk' => ?_⟩
  obtain ⟨A', c, h1, h2, h3⟩ := hc k hk'
  exact ⟨A', c, (hk _ _ hb).trans h1, h2, h3.keep hk⟩
theorem BSl.below {w w' : World} {B C : Nat} {A : Option Addr} {l : Bytes8} (h : BSl w B A l) (hb : Below C w w') (hC : B ≤ C) : BSl w' B A l := h.keep fun b o hb' => cell_below hb b o (by omega)
theorem PSl.below {w w' : World} {B C : Nat} {A : Option Addr} {ps : List Bytes8} (h : PSl w B A ps) (hb : Below C w w') (hC : B ≤ C) : PSl w' B A ps := h.keep fun b o hb' => cell_below hb b o (by omega)
theorem BSl.src {w : World} {B g : Nat} {A : Option Addr} {l : Bytes8} (h : BSl w B A l) (hg : B ≤ g) (hB : B ≤ w.heap.size) {f : Nat → B8} (hf : ∀ i, i < l.length → lf l i = f i) : Src w g A l.length f := fun h0 => by
  obtain ⟨b, o, e, hb, hc⟩ := h h0
  exact ⟨b, o, e, by omega, by omega, fun i hi => by rw [← hf i hi]; exact hc i hi⟩
theorem lf_append_lt (l m : Bytes8) (i : Nat) (h : i < l.length) : lf (l ++ m) i = lf l i := by
  unfold lf; rw [List.getD_eq_getElem?_getD, List.getD_eq_getElem?_getD, List.getElem?_append_left h]
theorem lf_append_ge (l m : Bytes8) (i : Nat) : lf (l ++ m) (l.length + i) = lf m i := by
  unfold lf; rw [List.getD_eq_getElem?_getD, List.getD_eq_getElem?_getD, List.getElem?_append_right (by omega), Nat.add_sub_cancel_left]
/-- What the first k parts come to. -/
def pre (ps : List Bytes8) (k : Nat) : Bytes8 := (ps.take k).flatten
theorem pre_succ (ps : List Bytes8) (k : Nat) (h : k < ps.length) : pre ps (k + 1) = pre ps k ++ ps.getD k [] := by
  unfold pre; rw [List.take_succ_eq_append_getElem h, List.flatten_append]; simp [List.getElem?_eq_getElem h]
theorem pre_all (ps : List Bytes8) : pre ps ps.length = ps.flatten := by unfold pre; rw [List.take_length]
theorem pre_le (ps : List Bytes8) (k : Nat) : (pre ps k).length ≤ ps.flatten.length := by
  have h : ps.flatten = pre ps k ++ (ps.drop k).flatten := by unfold pre; rw [← List.flatten_append, List.take_append_drop]
  rw [h, List.length_append]; omega
theorem lf_pre (ps : List Bytes8) (k i : Nat) (h : k < ps.length) (hi : i < (ps.getD k []).length) : lf (ps.getD k []) i = lf ps.flatten ((pre ps k).length + i) := by
  have e : ps.flatten = pre ps k ++ (ps.getD k [] ++ (ps.drop (k + 1)).flatten) := by
    rw [← List.append_assoc, ← pre_succ ps k h]; unfold pre; rw [← List.flatten_append, List.take_append_drop]
  rw [e, lf_append_ge, lf_append_lt _ _ _ hi]
theorem cell29 : CellTy Tryd.prog 29 := ⟨_, Tryd.underlying29, rfl, by kernel_rfl⟩
theorem c_new (w : World) : Calls Tryd.prog 19 #[] w fun e w' => e = .returned (.pointer (some ⟨w.heap.size, 0, none⟩)) ∧ w' = w.alloc (.cells (hc (fun _ => 0#32) (fun _ => 0#8) 0 false) 38) := by
  have z38 := zero38
  go_enter Tryd.func19, Tryd.ntmps19
  go_wp2_with fail
  go_ret
  exact ⟨rfl, rfl⟩
set_option maxHeartbeats 8000000 in
theorem c_progSum (A : Option Addr) (ps : List Bytes8) (cap B : Nat) (w : World) (hG : Glob w) (hB : B ≤ w.heap.size) (h : PSl w B A ps) (hl : ps.length < 10000000000000) (hn : ps.flatten.length < 10000000000000) :
    Calls Tryd.prog 16 #[.slice A ps.length cap] w fun e w' => e = .returned (.agg (brow 32 (shaL ps.flatten))) ∧ Below w.heap.size w w' := by
  have hlt := glob_lt hG
  have z26 := zero26
  go_enter Tryd.func16, Tryd.ntmps16
  go_wp2_with (go_at_call 19; (with_reducible refine (c_new _).mono ?_); rintro e w1 ⟨rfl, rfl⟩)
  refine Arr.name_world _ (fun W hW => ?_)
  have g0 : W.heap[w.heap.size]? = some (.cells (brow 32 fun _ => 0#8) 26 (0, 0)) := by rw [hW]; (with_reducible repeat (first | assumption | (refine p1 ?_; (first | omega | (simp <;> omega))) | (refine p2 ?_ ?_; focus (first | omega | (simp <;> omega))) | refine p3 ?_ | refine p4 ?_ | apply p5 | (refine p6 ?_ ?_; focus (first | omega | (simp <;> omega))) | apply p7 | (refine p8 ?_ ?_; focus (first | omega | (simp <;> omega))) | (refine p9 (by assumption) ?_ ?_; focus (first | omega | (simp <;> omega))) | (refine p10 (by assumption) ?_ ?_; focus (first | omega | (simp <;> omega)))))
  have g1 : Fresh W (w.heap.size + 1) := by rw [hW]; unfold Fresh; (with_reducible repeat (first | assumption | (refine p1 ?_; (first | omega | (simp <;> omega))) | (refine p2 ?_ ?_; focus (first | omega | (simp <;> omega))) | refine p3 ?_ | refine p4 ?_ | apply p5 | (refine p6 ?_ ?_; focus (first | omega | (simp <;> omega))) | apply p7 | (refine p8 ?_ ?_; focus (first | omega | (simp <;> omega))) | (refine p9 (by assumption) ?_ ?_; focus (first | omega | (simp <;> omega))) | (refine p10 (by assumption) ?_ ?_; focus (first | omega | (simp <;> omega)))))
  have hB0 : Below w.heap.size w W := by rw [hW]; (with_reducible repeat (first | assumption | exact Below.refl _ _ | (refine b4 ?_ ?_; focus (first | omega | (simp <;> omega))) | refine b2 ?_ | refine Below.drew ?_ | (refine b5 ?_ ?_; focus (first | omega | (simp <;> omega))) | (refine b1 ?_ ?_; focus (first | omega | (simp <;> omega))) | (refine b3 (by assumption) ?_ ?_; focus (first | omega | (simp <;> omega))) | (refine b6 (by assumption) ?_ ?_; focus (first | omega | (simp <;> omega)))))
  have hs0 : w.heap.size + 1 < W.heap.size := lt_of g1
  clear hW
  go_loopg [9] ps.length (fun k i wr => ∃ t : Nat, t + k = ps.length ∧ i = .int .i64 t ∧ Hst wr (w.heap.size + 1) (lf ps.flatten) (pre ps t).length ∧ wr.heap[w.heap.size]? = some (.cells (brow 32 fun _ => 0#8) 26 (0, 0)) ∧ Below w.heap.size w wr ∧ w.heap.size + 1 < wr.heap.size)
  case atStart => exact ⟨0, by omega, rfl, .inr ⟨rfl, g1⟩, g0, hB0, hs0⟩
  case round =>
    clear g1 g0 hB0 hs0
    obtain ⟨t, ht, rfl, hS, g0, hB0, hs0⟩ := hrel
    have HT := hid ht
    have ht2 : t ≤ ps.length := by omega
    clear ht
    by_cases htl : t < ps.length
    · obtain ⟨b, o, rfl, hb, hcell⟩ := h (by omega)
      obtain ⟨A', c, h1, h2, h3⟩ := hcell t htl
      have hc1 : wr.cell? ⟨b, o + t, none⟩ = some (.slice A' (ps.getD t []).length c) := (cell_below hB0 b _ (by omega)).trans h1
      have hsrc := (h3.below hB0 hB).src (g := w.heap.size + 1) (by omega) (by omega) (lf_pre ps t · htl)
      have hp1 := pre_le ps (t + 1)
      rw [pre_succ ps t htl, List.length_append] at hp1
      obtain ⟨L, hL⟩ : ∃ L, L = (ps.getD t []).length := ⟨_, rfl⟩
      rw [← hL] at hc1 hsrc hp1 h2
      have HL := hid hL
      clear hL hcell h1 h3
      go_wp2_with ((go_at_call 20; (with_reducible refine (c_write (w.heap.size + 1) (lf ps.flatten) (pre ps t).length L c A' _ (glob_below hG hB0 hlt) (by omega) hS hsrc h2 (by omega)).mono ?_); rintro e w2 ⟨rfl, hS2, hb2⟩))
      have g02 : w2.heap[w.heap.size]? = some (.cells (brow 32 fun _ => 0#8) 26 (0, 0)) := by (with_reducible repeat (first | assumption | (refine p1 ?_; (first | omega | (simp <;> omega))) | (refine p2 ?_ ?_; focus (first | omega | (simp <;> omega))) | refine p3 ?_ | refine p4 ?_ | apply p5 | (refine p6 ?_ ?_; focus (first | omega | (simp <;> omega))) | apply p7 | (refine p8 ?_ ?_; focus (first | omega | (simp <;> omega))) | (refine p9 (by assumption) ?_ ?_; focus (first | omega | (simp <;> omega))) | (refine p10 (by assumption) ?_ ?_; focus (first | omega | (simp <;> omega)))))
      have hB2 : Below w.heap.size w w2 := by (with_reducible repeat (first | assumption | exact Below.refl _ _ | (refine b4 ?_ ?_; focus (first | omega | (simp <;> omega))) | refine b2 ?_ | refine Below.drew ?_ | (refine b5 ?_ ?_; focus (first | omega | (simp <;> omega))) | (refine b1 ?_ ?_; focus (first | omega | (simp <;> omega))) | (refine b3 (by assumption) ?_ ?_; focus (first | omega | (simp <;> omega))) | (refine b6 (by assumption) ?_ ?_; focus (first | omega | (simp <;> omega)))))
      have hs2 := hb2.size
      go_roundg (ps.length - (t + 1))
      case measure => have := HT.out; omega
      case rel =>
        refine ⟨t + 1, by omega, by go_num, .inl ?_, g02, hB2, by omega⟩
        rw [pre_succ ps t htl, List.length_append, ← HL.out]; exact hS2
    · have e : t = ps.length := by omega
      subst e
      rw [pre_all] at hS
      have hN : Hnil wr (some ⟨w.heap.size + 1, 0, none⟩) (lf ps.flatten) ps.flatten.length := .inr ⟨_, rfl, by omega, hS⟩
      go_wp2_with fail
      refine (c_sum _ (lf ps.flatten) ps.flatten.length _ (glob_below hG hB0 hlt) hN (by omega)).mono ?_
      rintro e w2 ⟨rfl, hb2⟩
      have g02 : w2.heap[w.heap.size]? = some (.cells (brow 32 fun _ => 0#8) 26 (0, 0)) := by (with_reducible repeat (first | assumption | (refine p1 ?_; (first | omega | (simp <;> omega))) | (refine p2 ?_ ?_; focus (first | omega | (simp <;> omega))) | refine p3 ?_ | refine p4 ?_ | apply p5 | (refine p6 ?_ ?_; focus (first | omega | (simp <;> omega))) | apply p7 | (refine p8 ?_ ?_; focus (first | omega | (simp <;> omega))) | (refine p9 (by assumption) ?_ ?_; focus (first | omega | (simp <;> omega))) | (refine p10 (by assumption) ?_ ?_; focus (first | omega | (simp <;> omega)))))
      go_wp2_with (((with_reducible refine Arr.arm_store row26 rfl ?_); refine ⟨rfl, _, _, _, _, rfl, rfl, by (with_reducible repeat (first | assumption | (refine p1 ?_; (first | omega | (simp <;> omega))) | (refine p2 ?_ ?_; focus (first | omega | (simp <;> omega))) | refine p3 ?_ | refine p4 ?_ | apply p5 | (refine p6 ?_ ?_; focus (first | omega | (simp <;> omega))) | apply p7 | (refine p8 ?_ ?_; focus (first | omega | (simp <;> omega))) | (refine p9 (by assumption) ?_ ?_; focus (first | omega | (simp <;> omega))) | (refine p10 (by assumption) ?_ ?_; focus (first | omega | (simp <;> omega))))), by (exact brow_size _ _), by (exact brow_size _ _), by (exact brow_one _ _), ?_⟩))
      refine Arr.ret_row rfl row26 rfl ⟨_, _, _, _, rfl, by (with_reducible repeat (first | assumption | (refine p1 ?_; (first | omega | (simp <;> omega))) | (refine p2 ?_ ?_; focus (first | omega | (simp <;> omega))) | refine p3 ?_ | refine p4 ?_ | apply p5 | (refine p6 ?_ ?_; focus (first | omega | (simp <;> omega))) | apply p7 | (refine p8 ?_ ?_; focus (first | omega | (simp <;> omega))) | (refine p9 (by assumption) ?_ ?_; focus (first | omega | (simp <;> omega))) | (refine p10 (by assumption) ?_ ?_; focus (first | omega | (simp <;> omega))))), by (exact brow_size _ _), ?_⟩
      exact ⟨by unfold shaL; rw [List.length_flatten], by (with_reducible repeat (first | assumption | exact Below.refl _ _ | (refine b4 ?_ ?_; focus (first | omega | (simp <;> omega))) | refine b2 ?_ | refine Below.drew ?_ | (refine b5 ?_ ?_; focus (first | omega | (simp <;> omega))) | (refine b1 ?_ ?_; focus (first | omega | (simp <;> omega))) | (refine b3 (by assumption) ?_ ?_; focus (first | omega | (simp <;> omega))) | (refine b6 (by assumption) ?_ ?_; focus (first | omega | (simp <;> omega)))))⟩
end Go.Proofs.YtfkeaglbfembnaaDoor.Sha8
