/- Nodes of the trees of hashes; the greatest power of two below a number. -/
import Derived.WalkKit
import Derived.StillTactics
import Derived.Outline
import Derived.Deep.DeepCutAuto
import Derived.Deep.CutBlock
import Derived.Test.YtfkeaglbfembnaaDoorMk1
namespace Go.Proofs.YtfkeaglbfembnaaDoor.Mk2
open Go Go.RowKit Go.Proofs.YtfkeaglbfembnaaDoor.Arr Go.Proofs.YtfkeaglbfembnaaDoor.Mid Go.Proofs.YtfkeaglbfembnaaDoor.App Go.Proofs.YtfkeaglbfembnaaDoor.Sha1 Go.Proofs.YtfkeaglbfembnaaDoor.Sha2 Go.Proofs.YtfkeaglbfembnaaDoor.Sha4 Go.Proofs.YtfkeaglbfembnaaDoor.Sha5 Go.Proofs.YtfkeaglbfembnaaDoor.Sha6 Go.Proofs.YtfkeaglbfembnaaDoor.Sha7 Go.Proofs.YtfkeaglbfembnaaDoor.Sha8 Go.Proofs.YtfkeaglbfembnaaDoor.Sha9 Go.Proofs.YtfkeaglbfembnaaDoor.Sha10 Go.Proofs.YtfkeaglbfembnaaDoor.Sha12 Go.Proofs.YtfkeaglbfembnaaDoor.Sha13 Go.Proofs.YtfkeaglbfembnaaDoor.Sha17 Go.Proofs.YtfkeaglbfembnaaDoor.Mk1
set_option maxRecDepth 100000
set_option linter.unusedVariables false
set_option linter.unusedSimpArgs false
/-- The greatest power of two below n (of n above 1). -/
def hf (n : Nat) : Nat := 2 ^ Nat.log2 (n - 1)
theorem hf_at (n j : Nat) (h1 : 2 ^ j < n) (h2 : n ≤ 2 ^ (j + 1)) : hf n = 2 ^ j := by
  unfold hf
  have h3 : n - 1 ≠ 0 := by have := Nat.two_pow_pos j; omega
  have e : Nat.log2 (n - 1) = j := (Nat.log2_eq_iff (k := j) h3).2 ⟨by omega, by omega⟩
  rw [e]
theorem hf_lt (n : Nat) (h : 2 ≤ n) : hf n < n := by
  unfold hf
  have := Nat.log2_self_le (n := n - 1) (by omega)
  omega
theorem hf_pos (n : Nat) : 1 ≤ hf n := Nat.two_pow_pos _
set_option maxHeartbeats 4000000 in
theorem c_half (n : Nat) (h2 : 2 ≤ n) (hn : n < 1000000000000) (w : World) : Calls Tryd.prog 50 #[.int .i64 n] w fun e w' => e = .returned (.int .i64 (hf n : Nat)) ∧ w = w' := by
  go_enter Tryd.func50, Tryd.ntmps50
  go_wp2_with fail
  go_loopg [3] (n - 1) (fun m k wr => ∃ a j : Nat, k = .int .i64 (a : Int) ∧ a + m = n ∧ 0 < m ∧ Hid (a = 2 ^ j) ∧ w = wr)
  case atStart => exact ⟨1, 0, rfl, by omega, by omega, rfl, rfl⟩
  case round =>
    obtain ⟨a, j, rfl, ha, h0, HA, rfl⟩ := hrel
    have HAA := hid ha
    have ha2 : a < n := by omega
    have a1 : 1 ≤ a := by rw [HA.out]; exact Nat.two_pow_pos _
    clear ha
    have l1 : IntKind.i64.wrap (2 * (a : Int)) = 2 * (a : Int) := wrap64 _ (by omega) (by omega)
    have l2 : IntKind.i64.wrap ((a : Int) * 2) = 2 * (a : Int) := by rw [Int.mul_comm]; exact l1
    have l3 : IntKind.i64.wrap ((a : Int) + (a : Int)) = 2 * (a : Int) := by rw [← l1]; congr 1; omega
    by_cases hlt : 2 * a < n
    · have d1 : decide (2 * (a : Int) < (n : Int)) = true := by rw [decide_eq_true_iff]; omega
      have d2 : decide ((a : Int) + (a : Int) < (n : Int)) = true := by rw [decide_eq_true_iff]; omega
      go_wp2_with fail
      go_roundg (n - 2 * a)
      case measure => have := HAA.out; omega
      case rel => exact ⟨2 * a, j + 1, by go_num, by omega, by omega, by show _ = _; rw [Nat.pow_succ, ← HA.out]; omega, rfl⟩
    · have d1 : decide (2 * (a : Int) < (n : Int)) = false := by rw [decide_eq_false_iff_not]; omega
      have d2 : decide ((a : Int) + (a : Int) < (n : Int)) = false := by rw [decide_eq_false_iff_not]; omega
      have e := hf_at n j (by rw [← HA.out]; exact ha2) (by rw [Nat.pow_succ, ← HA.out]; omega)
      rw [← HA.out] at e
      go_wp2_with fail
      go_ret
      exact ⟨by rw [e]; rfl, rfl⟩
set_option maxHeartbeats 4000000 in
theorem c_refHalf (n : Nat) (h2 : 2 ≤ n) (hn : n < 1000000000000) (w : World) : Calls Tryd.prog 51 #[.int .i64 n] w fun e w' => e = .returned (.int .i64 (hf n : Nat)) ∧ w = w' := by
  go_enter Tryd.func51, Tryd.ntmps51
  go_wp2_with fail
  go_loopg [3] (n - 1) (fun m k wr => ∃ a j : Nat, k = .int .i64 (a : Int) ∧ a + m = n ∧ 0 < m ∧ Hid (a = 2 ^ j) ∧ w = wr)
  case atStart => exact ⟨1, 0, rfl, by omega, by omega, rfl, rfl⟩
  case round =>
    obtain ⟨a, j, rfl, ha, h0, HA, rfl⟩ := hrel
    have HAA := hid ha
    have ha2 : a < n := by omega
    have a1 : 1 ≤ a := by rw [HA.out]; exact Nat.two_pow_pos _
    clear ha
    have l1 : IntKind.i64.wrap (2 * (a : Int)) = 2 * (a : Int) := wrap64 _ (by omega) (by omega)
    have l2 : IntKind.i64.wrap ((a : Int) * 2) = 2 * (a : Int) := by rw [Int.mul_comm]; exact l1
    have l3 : IntKind.i64.wrap ((a : Int) + (a : Int)) = 2 * (a : Int) := by rw [← l1]; congr 1; omega
    by_cases hlt : 2 * a < n
    · have d1 : decide (2 * (a : Int) < (n : Int)) = true := by rw [decide_eq_true_iff]; omega
      have d2 : decide ((a : Int) + (a : Int) < (n : Int)) = true := by rw [decide_eq_true_iff]; omega
      go_wp2_with fail
      go_roundg (n - 2 * a)
      case measure => have := HAA.out; omega
      case rel => exact ⟨2 * a, j + 1, by go_num, by omega, by omega, by show _ = _; rw [Nat.pow_succ, ← HA.out]; omega, rfl⟩
    · have d1 : decide (2 * (a : Int) < (n : Int)) = false := by rw [decide_eq_false_iff_not]; omega
      have d2 : decide ((a : Int) + (a : Int) < (n : Int)) = false := by rw [decide_eq_false_iff_not]; omega
      have e := hf_at n j (by rw [← HA.out]; exact ha2) (by rw [Nat.pow_succ, ← HA.out]; omega)
      rw [← HA.out] at e
      go_wp2_with fail
      go_ret
      exact ⟨by rw [e]; rfl, rfl⟩
attribute [irreducible] hf
set_option maxHeartbeats 8000000 in
theorem c_node (x y : Dig) (w : World) (hG : Glob w) :
    Calls Tryd.prog 52 #[.agg (brow 32 x), .agg (brow 32 y)] w fun e w' => e = .returned (.agg (brow 32 (nodeD x y))) ∧ Below w.heap.size w w' := by
  have hlt := glob_lt hG
  have z26 := zero26
  go_enter Tryd.func52, Tryd.ntmps52
  go_upto_region 1 with fail
  refine name_world _ fun W0 hW => ?_
  have s0 : W0.heap[w.heap.size]? = some (.cells (brow 32 x) 26 (0, 0)) := by rw [hW]; (with_reducible repeat (first | assumption | (refine p1 ?_; (first | omega | (simp <;> omega))) | (refine p2 ?_ ?_; focus (first | omega | (simp <;> omega))) | refine p3 ?_ | refine p4 ?_ | apply p5 | (refine p6 ?_ ?_; focus (first | omega | (simp <;> omega))) | apply p7 | (refine p8 ?_ ?_; focus (first | omega | (simp <;> omega))) | (refine p9 (by assumption) ?_ ?_; focus (first | omega | (simp <;> omega))) | (refine p10 (by assumption) ?_ ?_; focus (first | omega | (simp <;> omega)))))
  have s1 : W0.heap[w.heap.size + 1]? = some (.cells (brow 32 y) 26 (0, 0)) := by rw [hW]; (with_reducible repeat (first | assumption | (refine p1 ?_; (first | omega | (simp <;> omega))) | (refine p2 ?_ ?_; focus (first | omega | (simp <;> omega))) | refine p3 ?_ | refine p4 ?_ | apply p5 | (refine p6 ?_ ?_; focus (first | omega | (simp <;> omega))) | apply p7 | (refine p8 ?_ ?_; focus (first | omega | (simp <;> omega))) | (refine p9 (by assumption) ?_ ?_; focus (first | omega | (simp <;> omega))) | (refine p10 (by assumption) ?_ ?_; focus (first | omega | (simp <;> omega)))))
  have s2 : W0.heap[w.heap.size + 1 + 1]? = some (.cells (brow 32 fun _ => 0#8) 26 (0, 0)) := by rw [hW]; (with_reducible repeat (first | assumption | (refine p1 ?_; (first | omega | (simp <;> omega))) | (refine p2 ?_ ?_; focus (first | omega | (simp <;> omega))) | refine p3 ?_ | refine p4 ?_ | apply p5 | (refine p6 ?_ ?_; focus (first | omega | (simp <;> omega))) | apply p7 | (refine p8 ?_ ?_; focus (first | omega | (simp <;> omega))) | (refine p9 (by assumption) ?_ ?_; focus (first | omega | (simp <;> omega))) | (refine p10 (by assumption) ?_ ?_; focus (first | omega | (simp <;> omega)))))
  have hB0 : Below w.heap.size w W0 := by rw [hW]; (with_reducible repeat (first | assumption | exact Below.refl _ _ | (refine b4 ?_ ?_; focus (first | omega | (simp <;> omega))) | refine b2 ?_ | refine Below.drew ?_ | (refine b5 ?_ ?_; focus (first | omega | (simp <;> omega))) | (refine b1 ?_ ?_; focus (first | omega | (simp <;> omega))) | (refine b3 (by assumption) ?_ ?_; focus (first | omega | (simp <;> omega))) | (refine b6 (by assumption) ?_ ?_; focus (first | omega | (simp <;> omega)))))
  clear hW
  have hl3 := lt_of s2
  obtain ⟨D, hD⟩ : ∃ D, D = nodeD x y := ⟨_, rfl⟩
  have HD := hid hD
  have C16 : Hid (∀ (W : World) (b c : Nat), Below W0.heap.size W0 W → b < W.heap.size → W.heap[c]? = some (.cells #[.int .u8 1] 5 (0, 0)) → W.heap[b]? = some (.cells #[.slice (some ⟨c, 0, none⟩) 1 1, .slice (some ⟨w.heap.size, 0, none⟩) 32 32, .slice (some ⟨w.heap.size + 1, 0, none⟩) 32 32] 29 (0, 0)) →
      Calls Tryd.prog 16 #[.slice (some ⟨b, 0, none⟩) 3 3] W fun e w' => e = .returned (.agg (brow 32 D)) ∧ Below W.heap.size W w') := by
    intro W b c hB hb hc hh
    have q0 : W.heap[w.heap.size]? = some (.cells (brow 32 x) 26 (0, 0)) := (hB.block _ (by omega)).trans s0
    have q1 : W.heap[w.heap.size + 1]? = some (.cells (brow 32 y) 26 (0, 0)) := (hB.block _ (by omega)).trans s1
    have hps : PSl W W.heap.size (some ⟨b, 0, none⟩) [[1#8], rowL 32 x, rowL 32 y] :=
      psl_three (l := [1#8]) (m := rowL 32 x) (k := rowL 32 y) (by rw [rowL_len, rowL_len]; exact hh) hb (Nat.le_refl _) (by rw [rowL_len]; omega) (by rw [rowL_len]; omega) (bsl_one (v := 1#8) hc rfl) (bsl_row q0) (bsl_row q1)
    have hB1 : Below w.heap.size w W := hB0.trans (hB.mono hB0.size)
    have c16 := c_progSum (some ⟨b, 0, none⟩) [[1#8], rowL 32 x, rowL 32 y] 3 W.heap.size W (glob_below hG hB1 hlt) (Nat.le_refl _) hps (by show 3 < _; omega) (by simp [rowL_len])
    rw [show [[1#8], rowL 32 x, rowL 32 y].flatten = 1#8 :: (rowL 32 x ++ rowL 32 y) by simp] at c16
    rw [hD]
    exact c16
  clear hD
  have hz0 := hB0.size
  refine Arr.held_begin (m := 6) (fun w' => Below w.heap.size w w') (by kernel_rfl) rfl ?_
  (refine Arr.held_pure (v := ?_) 1 rfl rfl (by kernel_rfl) (by kernel_rfl) (by kernel_rfl) (fun _ _ _ _ h => h) (by (with_reducible repeat (first | assumption | exact Below.refl _ _ | (refine b4 ?_ ?_; focus (first | omega | (simp <;> omega))) | refine b2 ?_ | refine Below.drew ?_ | (refine b5 ?_ ?_; focus (first | omega | (simp <;> omega))) | (refine b1 ?_ ?_; focus (first | omega | (simp <;> omega))) | (refine b3 (by assumption) ?_ ?_; focus (first | omega | (simp <;> omega))) | (refine b6 (by assumption) ?_ ?_; focus (first | omega | (simp <;> omega)))))) ?_ ?_; rotate_left; (focus (intro w hSw; go_simp; (try with_reducible rfl))); simp only [Act.put, Act.eval, List.setIfInBounds_toArray, List.set_cons_zero, List.set_cons_succ, Array.getD_eq_getD_getElem?, List.getElem?_toArray, List.getElem?_cons_zero, List.getElem?_cons_succ, Option.getD_some])
  (refine Arr.held_pure (v := ?_) 2 rfl rfl (by kernel_rfl) (by kernel_rfl) (by kernel_rfl) (fun _ _ _ _ h => h) (by (with_reducible repeat (first | assumption | exact Below.refl _ _ | (refine b4 ?_ ?_; focus (first | omega | (simp <;> omega))) | refine b2 ?_ | refine Below.drew ?_ | (refine b5 ?_ ?_; focus (first | omega | (simp <;> omega))) | (refine b1 ?_ ?_; focus (first | omega | (simp <;> omega))) | (refine b3 (by assumption) ?_ ?_; focus (first | omega | (simp <;> omega))) | (refine b6 (by assumption) ?_ ?_; focus (first | omega | (simp <;> omega)))))) ?_ ?_; rotate_left; (focus (intro w hSw; go_simp; (try with_reducible rfl))); simp only [Act.put, Act.eval, List.setIfInBounds_toArray, List.set_cons_zero, List.set_cons_succ, Array.getD_eq_getD_getElem?, List.getElem?_toArray, List.getElem?_cons_zero, List.getElem?_cons_succ, Option.getD_some])
  (try simp only [Act.put, Act.eval, List.setIfInBounds_toArray, List.set_cons_zero, List.set_cons_succ, Array.getD_eq_getD_getElem?, List.getElem?_toArray, List.getElem?_cons_zero, List.getElem?_cons_succ, Option.getD_some])
  (refine Arr.held_step [0] (by kernel_rfl) (by simp) ?_; refine List.forall_mem_cons.2 ⟨⟨_, rfl, ?_⟩, fun _ h => absurd h List.not_mem_nil⟩; go_wp2_with (fail); refine ⟨by (with_reducible repeat (first | assumption | exact Below.refl _ _ | (refine b4 ?_ ?_; focus (first | omega | (simp <;> omega))) | refine b2 ?_ | refine Below.drew ?_ | (refine b5 ?_ ?_; focus (first | omega | (simp <;> omega))) | (refine b1 ?_ ?_; focus (first | omega | (simp <;> omega))) | (refine b3 (by assumption) ?_ ?_; focus (first | omega | (simp <;> omega))) | (refine b6 (by assumption) ?_ ?_; focus (first | omega | (simp <;> omega))))), ?_⟩)
  (refine Arr.held_step [3] (by kernel_rfl) (by simp) ?_; refine List.forall_mem_cons.2 ⟨⟨_, rfl, ?_⟩, fun _ h => absurd h List.not_mem_nil⟩; go_wp2_with (fail); refine ⟨by (with_reducible repeat (first | assumption | exact Below.refl _ _ | (refine b4 ?_ ?_; focus (first | omega | (simp <;> omega))) | refine b2 ?_ | refine Below.drew ?_ | (refine b5 ?_ ?_; focus (first | omega | (simp <;> omega))) | (refine b1 ?_ ?_; focus (first | omega | (simp <;> omega))) | (refine b3 (by assumption) ?_ ?_; focus (first | omega | (simp <;> omega))) | (refine b6 (by assumption) ?_ ?_; focus (first | omega | (simp <;> omega))))), ?_⟩)
  (refine Arr.held_step [4] (by kernel_rfl) (by simp) ?_; refine List.forall_mem_cons.2 ⟨⟨_, rfl, ?_⟩, fun _ h => absurd h List.not_mem_nil⟩; go_wp2_with ((go_at_call 16; (with_reducible refine (C16.out _ (W0.heap.size + 1) W0.heap.size ?_ ?_ ?_ ?_).mono ?_); (focus (with_reducible repeat (first | assumption | exact Below.refl _ _ | (refine b4 ?_ ?_; focus (first | omega | (simp <;> omega))) | refine b2 ?_ | refine Below.drew ?_ | (refine b5 ?_ ?_; focus (first | omega | (simp <;> omega))) | (refine b1 ?_ ?_; focus (first | omega | (simp <;> omega))) | (refine b3 (by assumption) ?_ ?_; focus (first | omega | (simp <;> omega))) | (refine b6 (by assumption) ?_ ?_; focus (first | omega | (simp <;> omega)))))); (focus simp); (focus (with_reducible repeat (first | assumption | (refine p1 ?_; (first | omega | (simp <;> omega))) | (refine p2 ?_ ?_; focus (first | omega | (simp <;> omega))) | refine p3 ?_ | refine p4 ?_ | apply p5 | (refine p6 ?_ ?_; focus (first | omega | (simp <;> omega))) | apply p7 | (refine p8 ?_ ?_; focus (first | omega | (simp <;> omega))) | (refine p9 (by assumption) ?_ ?_; focus (first | omega | (simp <;> omega))) | (refine p10 (by assumption) ?_ ?_; focus (first | omega | (simp <;> omega)))))); (focus (with_reducible repeat (first | assumption | (refine p1 ?_; (first | omega | (simp <;> omega))) | (refine p2 ?_ ?_; focus (first | omega | (simp <;> omega))) | refine p3 ?_ | refine p4 ?_ | apply p5 | (refine p6 ?_ ?_; focus (first | omega | (simp <;> omega))) | apply p7 | (refine p8 ?_ ?_; focus (first | omega | (simp <;> omega))) | (refine p9 (by assumption) ?_ ?_; focus (first | omega | (simp <;> omega))) | (refine p10 (by assumption) ?_ ?_; focus (first | omega | (simp <;> omega)))))); rintro e w6 ⟨rfl, hb6⟩; have hz6 : W0.heap.size ≤ w6.heap.size := Nat.le_trans (by simp; omega) hb6.size)); refine ⟨by (with_reducible repeat (first | assumption | exact Below.refl _ _ | (refine b4 ?_ ?_; focus (first | omega | (simp <;> omega))) | refine b2 ?_ | refine Below.drew ?_ | (refine b5 ?_ ?_; focus (first | omega | (simp <;> omega))) | (refine b1 ?_ ?_; focus (first | omega | (simp <;> omega))) | (refine b3 (by assumption) ?_ ?_; focus (first | omega | (simp <;> omega))) | (refine b6 (by assumption) ?_ ?_; focus (first | omega | (simp <;> omega))))), ?_⟩)
  (refine Arr.held_step [5] (by kernel_rfl) (by simp) ?_; refine List.forall_mem_cons.2 ⟨⟨_, rfl, ?_⟩, fun _ h => absurd h List.not_mem_nil⟩; go_wp2_with (((with_reducible refine Arr.arm_store row26 rfl ?_); refine ⟨rfl, _, _, _, _, rfl, rfl, by (with_reducible repeat (first | assumption | (refine p1 ?_; (first | omega | (simp <;> omega))) | (refine p2 ?_ ?_; focus (first | omega | (simp <;> omega))) | refine p3 ?_ | refine p4 ?_ | apply p5 | (refine p6 ?_ ?_; focus (first | omega | (simp <;> omega))) | apply p7 | (refine p8 ?_ ?_; focus (first | omega | (simp <;> omega))) | (refine p9 (by assumption) ?_ ?_; focus (first | omega | (simp <;> omega))) | (refine p10 (by assumption) ?_ ?_; focus (first | omega | (simp <;> omega))))), by (exact brow_size _ _), by (exact brow_size _ _), by (exact brow_one _ _), ?_⟩)); refine ⟨by (with_reducible repeat (first | assumption | exact Below.refl _ _ | (refine b4 ?_ ?_; focus (first | omega | (simp <;> omega))) | refine b2 ?_ | refine Below.drew ?_ | (refine b5 ?_ ?_; focus (first | omega | (simp <;> omega))) | (refine b1 ?_ ?_; focus (first | omega | (simp <;> omega))) | (refine b3 (by assumption) ?_ ?_; focus (first | omega | (simp <;> omega))) | (refine b6 (by assumption) ?_ ?_; focus (first | omega | (simp <;> omega))))), ?_⟩)
  refine wpAnyH_done (by kernel_rfl) ?_ _
  go_wp2
  refine Arr.ret_row rfl row26 rfl ⟨_, _, _, _, rfl, by (with_reducible repeat (first | assumption | (refine p1 ?_; (first | omega | (simp <;> omega))) | (refine p2 ?_ ?_; focus (first | omega | (simp <;> omega))) | refine p3 ?_ | refine p4 ?_ | apply p5 | (refine p6 ?_ ?_; focus (first | omega | (simp <;> omega))) | apply p7 | (refine p8 ?_ ?_; focus (first | omega | (simp <;> omega))) | (refine p9 (by assumption) ?_ ?_; focus (first | omega | (simp <;> omega))) | (refine p10 (by assumption) ?_ ?_; focus (first | omega | (simp <;> omega))))), by (exact brow_size _ _), ?_⟩
  exact ⟨by rw [HD.out], by (with_reducible repeat (first | assumption | exact Below.refl _ _ | (refine b4 ?_ ?_; focus (first | omega | (simp <;> omega))) | refine b2 ?_ | refine Below.drew ?_ | (refine b5 ?_ ?_; focus (first | omega | (simp <;> omega))) | (refine b1 ?_ ?_; focus (first | omega | (simp <;> omega))) | (refine b3 (by assumption) ?_ ?_; focus (first | omega | (simp <;> omega))) | (refine b6 (by assumption) ?_ ?_; focus (first | omega | (simp <;> omega)))))⟩
end Go.Proofs.YtfkeaglbfembnaaDoor.Mk2
