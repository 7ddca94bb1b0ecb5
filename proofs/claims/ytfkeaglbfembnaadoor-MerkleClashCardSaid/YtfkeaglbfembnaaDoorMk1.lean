/- Leaves and nodes of the trees of hashes; the greatest power of two below a number. -/
import Derived.WalkKit
import Derived.StillTactics
import Derived.Outline
import Derived.Deep.DeepCutAuto
import Derived.Deep.CutBlock
import Derived.Test.YtfkeaglbfembnaaDoorSha13
import Derived.Test.YtfkeaglbfembnaaDoorHeld
import Derived.Test.YtfkeaglbfembnaaDoorSha17
namespace Go.Proofs.YtfkeaglbfembnaaDoor.Mk1
open Go Go.RowKit Go.Proofs.YtfkeaglbfembnaaDoor.Arr Go.Proofs.YtfkeaglbfembnaaDoor.Mid Go.Proofs.YtfkeaglbfembnaaDoor.App Go.Proofs.YtfkeaglbfembnaaDoor.Sha1 Go.Proofs.YtfkeaglbfembnaaDoor.Sha2 Go.Proofs.YtfkeaglbfembnaaDoor.Sha4 Go.Proofs.YtfkeaglbfembnaaDoor.Sha5 Go.Proofs.YtfkeaglbfembnaaDoor.Sha6 Go.Proofs.YtfkeaglbfembnaaDoor.Sha7 Go.Proofs.YtfkeaglbfembnaaDoor.Sha8 Go.Proofs.YtfkeaglbfembnaaDoor.Sha9 Go.Proofs.YtfkeaglbfembnaaDoor.Sha10 Go.Proofs.YtfkeaglbfembnaaDoor.Sha12 Go.Proofs.YtfkeaglbfembnaaDoor.Sha13 Go.Proofs.YtfkeaglbfembnaaDoor.Sha17
set_option maxRecDepth 100000
set_option linter.unusedVariables false
set_option linter.unusedSimpArgs false
abbrev Dig := Nat → B8
def leafD (l : Bytes8) : Dig := shaL (0#8 :: l)
def nodeD (x y : Dig) : Dig := shaL (1#8 :: (rowL 32 x ++ rowL 32 y))
theorem Own.one {w : World} {base g : Nat} {x : Int} (v : B8) (hx : x = (v.toNat : Int)) (hg : g = w.heap.size) (hb : base ≤ w.heap.size) : Own (w.alloc (.cells #[.int .u8 x] 5)) base (.slice (some ⟨g, 0, none⟩) 1 1) [v] := by
  subst hg; subst hx
  exact World.ownsRow_lit w _ 1 hb (by unfold maxLen; omega) rfl
theorem psl_three {w : World} {b B c d f : Nat} {A A' A'' : Option Addr} {t : TypeId} {fr : Nat × Nat} {l m k : Bytes8} (h : w.heap[b]? = some (.cells #[.slice A l.length c, .slice A' m.length d, .slice A'' k.length f] t fr)) (hb : b < B) (hc : l.length ≤ c) (hd : m.length ≤ d) (hf : k.length ≤ f) (hl : BSl w B A l) (hm : BSl w B A' m) (hk : BSl w B A'' k) : PSl w B (some ⟨b, 0, none⟩) [l, m, k] :=
  fun _ => ⟨b, 0, rfl, hb, fun j hj => by
    match j, hj with
    | 0, _ => exact ⟨A, c, cell_of h rfl, hc, hl⟩
    | 1, _ => exact ⟨A', d, cell_of h rfl, hd, hm⟩
    | 2, _ => exact ⟨A'', f, cell_of h rfl, hf, hk⟩⟩
set_option maxHeartbeats 8000000 in
theorem c_leaf (A : Option Addr) (l : Bytes8) (cap B : Nat) (w : World) (hG : Glob w) (hc : l.length ≤ cap) (hB : B ≤ w.heap.size) (h : BSl w B A l) (hl : l.length < 1000000000000) :
    Calls Tryd.prog 47 #[.slice A l.length cap] w fun e w' => e = .returned (.agg (brow 32 (leafD l))) ∧ Below w.heap.size w w' := by
  have hlt := glob_lt hG
  have z26 := zero26
  go_enter Tryd.func47, Tryd.ntmps47
  go_wp2_with fail
  refine name_calls _ (fun W hW => ?_)
  have s0 : W.heap[w.heap.size]? = some (.cells (brow 32 fun _ => 0#8) 26 (0, 0)) := by rw [hW]; (with_reducible repeat (first | assumption | (refine p1 ?_; (first | omega | (simp <;> omega))) | (refine p2 ?_ ?_; focus (first | omega | (simp <;> omega))) | refine p3 ?_ | refine p4 ?_ | apply p5 | (refine p6 ?_ ?_; focus (first | omega | (simp <;> omega))) | apply p7 | (refine p8 ?_ ?_; focus (first | omega | (simp <;> omega))) | (refine p9 (by assumption) ?_ ?_; focus (first | omega | (simp <;> omega))) | (refine p10 (by assumption) ?_ ?_; focus (first | omega | (simp <;> omega)))))
  have s1 : W.heap[w.heap.size + 1]? = some (.cells #[.int .u8 0] 5 (0, 0)) := by rw [hW]; (with_reducible repeat (first | assumption | (refine p1 ?_; (first | omega | (simp <;> omega))) | (refine p2 ?_ ?_; focus (first | omega | (simp <;> omega))) | refine p3 ?_ | refine p4 ?_ | apply p5 | (refine p6 ?_ ?_; focus (first | omega | (simp <;> omega))) | apply p7 | (refine p8 ?_ ?_; focus (first | omega | (simp <;> omega))) | (refine p9 (by assumption) ?_ ?_; focus (first | omega | (simp <;> omega))) | (refine p10 (by assumption) ?_ ?_; focus (first | omega | (simp <;> omega)))))
  have s2 : W.heap[w.heap.size + 1 + 1]? = some (.cells #[.slice (some ⟨w.heap.size + 1, 0, none⟩) 1 1, .slice A l.length cap] 29 (0, 0)) := by rw [hW]; (with_reducible repeat (first | assumption | (refine p1 ?_; (first | omega | (simp <;> omega))) | (refine p2 ?_ ?_; focus (first | omega | (simp <;> omega))) | refine p3 ?_ | refine p4 ?_ | apply p5 | (refine p6 ?_ ?_; focus (first | omega | (simp <;> omega))) | apply p7 | (refine p8 ?_ ?_; focus (first | omega | (simp <;> omega))) | (refine p9 (by assumption) ?_ ?_; focus (first | omega | (simp <;> omega))) | (refine p10 (by assumption) ?_ ?_; focus (first | omega | (simp <;> omega)))))
  have hB9 : Below w.heap.size w W := by rw [hW]; (with_reducible repeat (first | assumption | exact Below.refl _ _ | (refine b4 ?_ ?_; focus (first | omega | (simp <;> omega))) | refine b2 ?_ | refine Below.drew ?_ | (refine b5 ?_ ?_; focus (first | omega | (simp <;> omega))) | (refine b1 ?_ ?_; focus (first | omega | (simp <;> omega))) | (refine b3 (by assumption) ?_ ?_; focus (first | omega | (simp <;> omega))) | (refine b6 (by assumption) ?_ ?_; focus (first | omega | (simp <;> omega)))))
  clear hW
  have hl3 := lt_of s2
  have hb : BSl W W.heap.size A l := BSl.mono (h.below hB9 hB) (by omega)
  have hps : PSl W W.heap.size (some ⟨w.heap.size + 1 + 1, 0, none⟩) [[0#8], l] := psl_two (l := [0#8]) (m := l) s2 hl3 (Nat.le_refl _) hc (bsl_one (v := 0#8) s1 rfl) hb
  have c16 := c_progSum (some ⟨w.heap.size + 1 + 1, 0, none⟩) [[0#8], l] 2 W.heap.size W (glob_below hG hB9 hlt) (Nat.le_refl _) hps (by show 2 < _; omega) (by simp; omega)
  rw [show [[0#8], l].flatten = 0#8 :: l by simp] at c16
  obtain ⟨D, hD⟩ : ∃ D, D = leafD l := ⟨_, rfl⟩
  rw [show shaL (0#8 :: l) = D by rw [hD]; rfl] at c16
  have C16 := hid c16
  have HD := hid hD
  clear c16 hD hps hb
  refine (C16.out).mono ?_
  rintro e w6 ⟨rfl, hb6⟩
  have hz6 := hb6.size
  have u0 : w6.heap[w.heap.size]? = some (.cells (brow 32 fun _ => 0#8) 26 (0, 0)) := by (with_reducible repeat (first | assumption | (refine p1 ?_; (first | omega | (simp <;> omega))) | (refine p2 ?_ ?_; focus (first | omega | (simp <;> omega))) | refine p3 ?_ | refine p4 ?_ | apply p5 | (refine p6 ?_ ?_; focus (first | omega | (simp <;> omega))) | apply p7 | (refine p8 ?_ ?_; focus (first | omega | (simp <;> omega))) | (refine p9 (by assumption) ?_ ?_; focus (first | omega | (simp <;> omega))) | (refine p10 (by assumption) ?_ ?_; focus (first | omega | (simp <;> omega)))))
  go_wp2_with (((with_reducible refine Arr.arm_store row26 rfl ?_); refine ⟨rfl, _, _, _, _, rfl, rfl, by (with_reducible repeat (first | assumption | (refine p1 ?_; (first | omega | (simp <;> omega))) | (refine p2 ?_ ?_; focus (first | omega | (simp <;> omega))) | refine p3 ?_ | refine p4 ?_ | apply p5 | (refine p6 ?_ ?_; focus (first | omega | (simp <;> omega))) | apply p7 | (refine p8 ?_ ?_; focus (first | omega | (simp <;> omega))) | (refine p9 (by assumption) ?_ ?_; focus (first | omega | (simp <;> omega))) | (refine p10 (by assumption) ?_ ?_; focus (first | omega | (simp <;> omega))))), by (exact brow_size _ _), by (exact brow_size _ _), by (exact brow_one _ _), ?_⟩))
  refine Arr.ret_row rfl row26 rfl ⟨_, _, _, _, rfl, by (with_reducible repeat (first | assumption | (refine p1 ?_; (first | omega | (simp <;> omega))) | (refine p2 ?_ ?_; focus (first | omega | (simp <;> omega))) | refine p3 ?_ | refine p4 ?_ | apply p5 | (refine p6 ?_ ?_; focus (first | omega | (simp <;> omega))) | apply p7 | (refine p8 ?_ ?_; focus (first | omega | (simp <;> omega))) | (refine p9 (by assumption) ?_ ?_; focus (first | omega | (simp <;> omega))) | (refine p10 (by assumption) ?_ ?_; focus (first | omega | (simp <;> omega))))), by (exact brow_size _ _), ?_⟩
  have hz9 := hB9.size
  exact ⟨by rw [HD.out], by (with_reducible repeat (first | assumption | exact Below.refl _ _ | (refine b4 ?_ ?_; focus (first | omega | (simp <;> omega))) | refine b2 ?_ | refine Below.drew ?_ | (refine b5 ?_ ?_; focus (first | omega | (simp <;> omega))) | (refine b1 ?_ ?_; focus (first | omega | (simp <;> omega))) | (refine b3 (by assumption) ?_ ?_; focus (first | omega | (simp <;> omega))) | (refine b6 (by assumption) ?_ ?_; focus (first | omega | (simp <;> omega)))))⟩
set_option maxHeartbeats 8000000 in
theorem c_refLeaf (A : Option Addr) (l : Bytes8) (cap B : Nat) (w : World) (hB : B ≤ w.heap.size) (h : BSl w B A l) (hl : l.length < 1000000000000) :
    Calls Tryd.prog 37 #[.slice A l.length cap] w fun e w' => e = .returned (.agg (brow 32 (leafD l))) ∧ Below w.heap.size w w' := by
  have z26 := zero26
  go_enter Tryd.func37, Tryd.ntmps37
  go_upto_region 2 with fail
  refine name_world _ fun W hW => ?_
  have hO : Own W (w.heap.size + 1) (.slice (some ⟨w.heap.size + 1, 0, none⟩) 1 1) [0#8] := by
    rw [hW]; exact Own.one 0#8 rfl (World.size_alloc _ _).symm (by simp)
  have s0 : W.heap[w.heap.size]? = some (.cells (brow 32 fun _ => 0#8) 26 (0, 0)) := by rw [hW]; (with_reducible repeat (first | assumption | (refine p1 ?_; (first | omega | (simp <;> omega))) | (refine p2 ?_ ?_; focus (first | omega | (simp <;> omega))) | refine p3 ?_ | refine p4 ?_ | apply p5 | (refine p6 ?_ ?_; focus (first | omega | (simp <;> omega))) | apply p7 | (refine p8 ?_ ?_; focus (first | omega | (simp <;> omega))) | (refine p9 (by assumption) ?_ ?_; focus (first | omega | (simp <;> omega))) | (refine p10 (by assumption) ?_ ?_; focus (first | omega | (simp <;> omega)))))
  have hB0 : Below w.heap.size w W := by rw [hW]; (with_reducible repeat (first | assumption | exact Below.refl _ _ | (refine b4 ?_ ?_; focus (first | omega | (simp <;> omega))) | refine b2 ?_ | refine Below.drew ?_ | (refine b5 ?_ ?_; focus (first | omega | (simp <;> omega))) | (refine b1 ?_ ?_; focus (first | omega | (simp <;> omega))) | (refine b3 (by assumption) ?_ ?_; focus (first | omega | (simp <;> omega))) | (refine b6 (by assumption) ?_ ?_; focus (first | omega | (simp <;> omega)))))
  have hz0 : w.heap.size + 1 ≤ W.heap.size := by rw [hW]; simp
  have hb := h.below hB0 hB
  clear hW
  go_wp2_with ((at_builtin; refine arm_appB elem5 rfl (base := w.heap.size + 1) (l := [0#8]) hO hb (by simp; omega) hz0 ?_; refine ⟨rfl, rfl, _, rfl, ?_⟩; intro v2 w2 hO2 hb2; obtain ⟨A2, c2, rfl, hc2, hs2, _⟩ := hO2.form))
  have hl2 : ([0#8] ++ l).length = 1 + l.length := by simp; omega
  have c17 := c_refSum A2 ([0#8] ++ l) c2 w2.heap.size w2 (Nat.le_refl _) hs2 (by omega)
  obtain ⟨D, hD⟩ : ∃ D, D = leafD l := ⟨_, rfl⟩
  rw [show shaL ([0#8] ++ l) = D by rw [hD]; rfl] at c17
  have C17 := hid c17
  have HD := hid hD
  have hz2 := hb2.size
  have s2 : w2.heap[w.heap.size]? = some (.cells (brow 32 fun _ => 0#8) 26 (0, 0)) := by (with_reducible repeat (first | assumption | (refine p1 ?_; (first | omega | (simp <;> omega))) | (refine p2 ?_ ?_; focus (first | omega | (simp <;> omega))) | refine p3 ?_ | refine p4 ?_ | apply p5 | (refine p6 ?_ ?_; focus (first | omega | (simp <;> omega))) | apply p7 | (refine p8 ?_ ?_; focus (first | omega | (simp <;> omega))) | (refine p9 (by assumption) ?_ ?_; focus (first | omega | (simp <;> omega))) | (refine p10 (by assumption) ?_ ?_; focus (first | omega | (simp <;> omega)))))
  have hB2 : Below w.heap.size w w2 := by (with_reducible repeat (first | assumption | exact Below.refl _ _ | (refine b4 ?_ ?_; focus (first | omega | (simp <;> omega))) | refine b2 ?_ | refine Below.drew ?_ | (refine b5 ?_ ?_; focus (first | omega | (simp <;> omega))) | (refine b1 ?_ ?_; focus (first | omega | (simp <;> omega))) | (refine b3 (by assumption) ?_ ?_; focus (first | omega | (simp <;> omega))) | (refine b6 (by assumption) ?_ ?_; focus (first | omega | (simp <;> omega)))))
  clear c17 hD hO hO2 hs2 hb
  refine (C17.out).mono ?_
  rintro e w6 ⟨rfl, hb6⟩
  have hz6 := hb6.size
  have u0 : w6.heap[w.heap.size]? = some (.cells (brow 32 fun _ => 0#8) 26 (0, 0)) := by (with_reducible repeat (first | assumption | (refine p1 ?_; (first | omega | (simp <;> omega))) | (refine p2 ?_ ?_; focus (first | omega | (simp <;> omega))) | refine p3 ?_ | refine p4 ?_ | apply p5 | (refine p6 ?_ ?_; focus (first | omega | (simp <;> omega))) | apply p7 | (refine p8 ?_ ?_; focus (first | omega | (simp <;> omega))) | (refine p9 (by assumption) ?_ ?_; focus (first | omega | (simp <;> omega))) | (refine p10 (by assumption) ?_ ?_; focus (first | omega | (simp <;> omega)))))
  go_wp2_with (((with_reducible refine Arr.arm_store row26 rfl ?_); refine ⟨rfl, _, _, _, _, rfl, rfl, by (with_reducible repeat (first | assumption | (refine p1 ?_; (first | omega | (simp <;> omega))) | (refine p2 ?_ ?_; focus (first | omega | (simp <;> omega))) | refine p3 ?_ | refine p4 ?_ | apply p5 | (refine p6 ?_ ?_; focus (first | omega | (simp <;> omega))) | apply p7 | (refine p8 ?_ ?_; focus (first | omega | (simp <;> omega))) | (refine p9 (by assumption) ?_ ?_; focus (first | omega | (simp <;> omega))) | (refine p10 (by assumption) ?_ ?_; focus (first | omega | (simp <;> omega))))), by (exact brow_size _ _), by (exact brow_size _ _), by (exact brow_one _ _), ?_⟩))
  refine Arr.ret_row rfl row26 rfl ⟨_, _, _, _, rfl, by (with_reducible repeat (first | assumption | (refine p1 ?_; (first | omega | (simp <;> omega))) | (refine p2 ?_ ?_; focus (first | omega | (simp <;> omega))) | refine p3 ?_ | refine p4 ?_ | apply p5 | (refine p6 ?_ ?_; focus (first | omega | (simp <;> omega))) | apply p7 | (refine p8 ?_ ?_; focus (first | omega | (simp <;> omega))) | (refine p9 (by assumption) ?_ ?_; focus (first | omega | (simp <;> omega))) | (refine p10 (by assumption) ?_ ?_; focus (first | omega | (simp <;> omega))))), by (exact brow_size _ _), ?_⟩
  exact ⟨by rw [HD.out], by (with_reducible repeat (first | assumption | exact Below.refl _ _ | (refine b4 ?_ ?_; focus (first | omega | (simp <;> omega))) | refine b2 ?_ | refine Below.drew ?_ | (refine b5 ?_ ?_; focus (first | omega | (simp <;> omega))) | (refine b1 ?_ ?_; focus (first | omega | (simp <;> omega))) | (refine b3 (by assumption) ?_ ?_; focus (first | omega | (simp <;> omega))) | (refine b6 (by assumption) ?_ ?_; focus (first | omega | (simp <;> omega)))))⟩
end Go.Proofs.YtfkeaglbfembnaaDoor.Mk1
