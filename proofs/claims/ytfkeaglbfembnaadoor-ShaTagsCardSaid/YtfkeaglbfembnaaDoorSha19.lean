/- The law ShaTags' walk. -/
import Derived.WalkKit
import Derived.StillTactics
import Derived.Outline
import Derived.Deep.DeepCutAuto
import Derived.Deep.CutBlock
import Derived.Test.YtfkeaglbfembnaaDoorSha18
namespace Go.Proofs.YtfkeaglbfembnaaDoor.Sha19
open Go Go.RowKit Go.Proofs.YtfkeaglbfembnaaDoor.Arr Go.Proofs.YtfkeaglbfembnaaDoor.Mid Go.Proofs.YtfkeaglbfembnaaDoor.App Go.Proofs.YtfkeaglbfembnaaDoor.Sha1 Go.Proofs.YtfkeaglbfembnaaDoor.Sha2 Go.Proofs.YtfkeaglbfembnaaDoor.Sha4 Go.Proofs.YtfkeaglbfembnaaDoor.Sha5 Go.Proofs.YtfkeaglbfembnaaDoor.Sha6 Go.Proofs.YtfkeaglbfembnaaDoor.Sha7 Go.Proofs.YtfkeaglbfembnaaDoor.Sha8 Go.Proofs.YtfkeaglbfembnaaDoor.Sha9 Go.Proofs.YtfkeaglbfembnaaDoor.Sha10 Go.Proofs.YtfkeaglbfembnaaDoor.Sha11 Go.Proofs.YtfkeaglbfembnaaDoor.Sha12 Go.Proofs.YtfkeaglbfembnaaDoor.Sha13 Go.Proofs.YtfkeaglbfembnaaDoor.Sha17 Go.Proofs.YtfkeaglbfembnaaDoor.Sha18
set_option maxRecDepth 100000
set_option linter.unusedVariables false
set_option linter.unusedSimpArgs false
set_option maxHeartbeats 8000000 in
theorem c_shaTags (K : Nat → B8) (A : Option Addr) (ps : List Bytes8) (cap : Nat) (w : World) (hG : Glob w) (h : PSl w w.heap.size A ps) (hl : ps.length < 10000000000000) (hll : ∀ k, k < ps.length → (ps.getD k []).length < 1000000000000000) :
    Calls Tryd.prog 8 #[.agg (brow 32 K), .slice A ps.length cap] w fun e w' => e = .returned (.bool true) ∧ Below w.heap.size w w' := by
  have hlt := glob_lt hG
  have ev := eql26
  have hug := unguarded26
  go_enter Tryd.func8, Tryd.ntmps8
  go_wp2_with ((go_at_call 14; (with_reducible refine (c_awake _ (glob_below hG (B := w.heap.size) (by (with_reducible repeat (first | assumption | exact Below.refl _ _ | (refine b4 ?_ ?_; focus (first | omega | (simp <;> omega))) | refine b2 ?_ | refine Below.drew ?_ | (refine b5 ?_ ?_; focus (first | omega | (simp <;> omega))) | (refine b1 ?_ ?_; focus (first | omega | (simp <;> omega))) | (refine b3 (by assumption) ?_ ?_; focus (first | omega | (simp <;> omega))) | (refine b6 (by assumption) ?_ ?_; focus (first | omega | (simp <;> omega)))))) hlt)).mono ?_); rintro e w1 ⟨rfl, hb1⟩; have hz1 := hb1.size; (try simp only [World.size_alloc] at hz1); have q0 : w1.heap[w.heap.size]? = some (.cells (brow 32 K) 26 (0, 0)) := by (with_reducible repeat (first | assumption | (refine p1 ?_; (first | omega | (simp <;> omega))) | (refine p2 ?_ ?_; focus (first | omega | (simp <;> omega))) | refine p3 ?_ | refine p4 ?_ | apply p5 | (refine p6 ?_ ?_; focus (first | omega | (simp <;> omega))) | apply p7 | (refine p8 ?_ ?_; focus (first | omega | (simp <;> omega))) | (refine p9 (by assumption) ?_ ?_; focus (first | omega | (simp <;> omega))) | (refine p10 (by assumption) ?_ ?_; focus (first | omega | (simp <;> omega)))))))
  have hB1 : Below w.heap.size w w1 := by (with_reducible repeat (first | assumption | exact Below.refl _ _ | (refine b4 ?_ ?_; focus (first | omega | (simp <;> omega))) | refine b2 ?_ | refine Below.drew ?_ | (refine b5 ?_ ?_; focus (first | omega | (simp <;> omega))) | (refine b1 ?_ ?_; focus (first | omega | (simp <;> omega))) | (refine b3 (by assumption) ?_ ?_; focus (first | omega | (simp <;> omega))) | (refine b6 (by assumption) ?_ ?_; focus (first | omega | (simp <;> omega)))))
  refine (c_few A ps cap w.heap.size w1 (h.below hB1 (Nat.le_refl _)) hl hll).mono ?_
  rintro e w2 ⟨b, rfl, hb, rfl⟩
  cases b
  · go_wp2_with ((go_at_call 14; (with_reducible refine (c_awake _ (glob_below hG hB1 hlt)).mono ?_); rintro e w3 ⟨rfl, hb3⟩))
    go_ret
    exact ⟨rfl, hB1.trans (hb3.mono (by omega))⟩
  · have hlen := hb rfl
    have hlw := lt_of q0
    clear hb hb1
    go_wp2_with fail
    obtain ⟨F, hF⟩ : ∃ F, F = ps.flatten := ⟨_, rfl⟩
    obtain ⟨T, hT⟩ : ∃ T, T = hmac K F := ⟨_, rfl⟩
    have hFl : F.length ≤ 20000 := by rw [hF]; omega
    have C26 : Hid (∀ W : World, Below w1.heap.size w1 W → Calls Tryd.prog 26 #[.agg (brow 32 K), .slice A ps.length cap] W fun e w' => e = .returned (.agg (brow 32 T)) ∧ Below W.heap.size W w') := by
      intro W hb
      have hbw : Below w.heap.size w W := hB1.trans (hb.mono (by omega))
      rw [hT, hF]
      exact c_tag K A ps cap w.heap.size W (glob_below hG hbw hlt) hbw.size (h.below hbw (Nat.le_refl _)) (by omega) (by omega)
    have C18 : Hid (∀ W : World, Below w1.heap.size w1 W → Calls Tryd.prog 18 #[.slice A ps.length cap] W (RetOwn W F)) := by
      intro W hb
      have hbw : Below w.heap.size w W := hB1.trans (hb.mono (by omega))
      rw [hF]
      exact c_join A ps cap w.heap.size W hbw.size (h.below hbw (Nat.le_refl _)) hl (by omega)
    have C27 : Hid (∀ (W : World) (A' : Option Addr) (c : Nat), BSl W W.heap.size A' F → Calls Tryd.prog 27 #[.agg (brow 32 K), .slice A' F.length c] W fun e w' => e = .returned (.agg (brow 32 T)) ∧ Below W.heap.size W w') := by
      intro W A' c hb
      rw [hT]
      exact c_refTag K A' F c W.heap.size W (Nat.le_refl _) hb (by omega)
    have hq := eq32_refl T
    clear hT hF
    refine Arr.held_begin (m := 9) (fun w' => Below w1.heap.size w1 w') (by kernel_rfl) rfl ?_
    refine Arr.held_load 0 row26 rfl rfl rfl (by kernel_rfl) (by kernel_rfl) (by kernel_rfl) (fun _ _ _ _ h => h) (by (with_reducible repeat (first | assumption | exact Below.refl _ _ | (refine b4 ?_ ?_; focus (first | omega | (simp <;> omega))) | refine b2 ?_ | refine Below.drew ?_ | (refine b5 ?_ ?_; focus (first | omega | (simp <;> omega))) | (refine b1 ?_ ?_; focus (first | omega | (simp <;> omega))) | (refine b3 (by assumption) ?_ ?_; focus (first | omega | (simp <;> omega))) | (refine b6 (by assumption) ?_ ?_; focus (first | omega | (simp <;> omega)))))) ⟨_, _, rfl, fun w h => ⟨_, _, hp_below h (lt_of q0) q0⟩, by (exact brow_size _ _), ?_⟩
    refine Arr.held_move 1 rfl rfl rfl (by kernel_rfl) (by kernel_rfl) (by kernel_rfl) (fun _ _ _ _ h => h) (by (with_reducible repeat (first | assumption | exact Below.refl _ _ | (refine b4 ?_ ?_; focus (first | omega | (simp <;> omega))) | refine b2 ?_ | refine Below.drew ?_ | (refine b5 ?_ ?_; focus (first | omega | (simp <;> omega))) | (refine b1 ?_ ?_; focus (first | omega | (simp <;> omega))) | (refine b3 (by assumption) ?_ ?_; focus (first | omega | (simp <;> omega))) | (refine b6 (by assumption) ?_ ?_; focus (first | omega | (simp <;> omega)))))) ?_
    refine Arr.held_load 3 row26 rfl rfl rfl (by kernel_rfl) (by kernel_rfl) (by kernel_rfl) (fun _ _ _ _ h => h) (by (with_reducible repeat (first | assumption | exact Below.refl _ _ | (refine b4 ?_ ?_; focus (first | omega | (simp <;> omega))) | refine b2 ?_ | refine Below.drew ?_ | (refine b5 ?_ ?_; focus (first | omega | (simp <;> omega))) | (refine b1 ?_ ?_; focus (first | omega | (simp <;> omega))) | (refine b3 (by assumption) ?_ ?_; focus (first | omega | (simp <;> omega))) | (refine b6 (by assumption) ?_ ?_; focus (first | omega | (simp <;> omega)))))) ⟨_, _, rfl, fun w h => ⟨_, _, hp_below h (lt_of q0) q0⟩, by (exact brow_size _ _), ?_⟩
    refine Arr.held_move 4 rfl rfl rfl (by kernel_rfl) (by kernel_rfl) (by kernel_rfl) (fun _ _ _ _ h => h) (by (with_reducible repeat (first | assumption | exact Below.refl _ _ | (refine b4 ?_ ?_; focus (first | omega | (simp <;> omega))) | refine b2 ?_ | refine Below.drew ?_ | (refine b5 ?_ ?_; focus (first | omega | (simp <;> omega))) | (refine b1 ?_ ?_; focus (first | omega | (simp <;> omega))) | (refine b3 (by assumption) ?_ ?_; focus (first | omega | (simp <;> omega))) | (refine b6 (by assumption) ?_ ?_; focus (first | omega | (simp <;> omega)))))) ?_
    simp only [Act.put, Act.eval, List.setIfInBounds_toArray, List.set_cons_zero, List.set_cons_succ, Array.getD_eq_getD_getElem?, List.getElem?_toArray, List.getElem?_cons_zero, List.getElem?_cons_succ, Option.getD_some]
    (refine Arr.held_step [2] (by kernel_rfl) (by simp) ?_; refine List.forall_mem_cons.2 ⟨⟨_, rfl, ?_⟩, fun _ h => absurd h List.not_mem_nil⟩; go_wp2_with ((go_at_call 26; (with_reducible refine (C26.out _ (by (with_reducible repeat (first | assumption | exact Below.refl _ _ | (refine b4 ?_ ?_; focus (first | omega | (simp <;> omega))) | refine b2 ?_ | refine Below.drew ?_ | (refine b5 ?_ ?_; focus (first | omega | (simp <;> omega))) | (refine b1 ?_ ?_; focus (first | omega | (simp <;> omega))) | (refine b3 (by assumption) ?_ ?_; focus (first | omega | (simp <;> omega))) | (refine b6 (by assumption) ?_ ?_; focus (first | omega | (simp <;> omega))))))).mono ?_); rintro e w5 ⟨rfl, hb5⟩; have hz5 : w1.heap.size ≤ w5.heap.size := hb5.size)); refine ⟨by (with_reducible repeat (first | assumption | exact Below.refl _ _ | (refine b4 ?_ ?_; focus (first | omega | (simp <;> omega))) | refine b2 ?_ | refine Below.drew ?_ | (refine b5 ?_ ?_; focus (first | omega | (simp <;> omega))) | (refine b1 ?_ ?_; focus (first | omega | (simp <;> omega))) | (refine b3 (by assumption) ?_ ?_; focus (first | omega | (simp <;> omega))) | (refine b6 (by assumption) ?_ ?_; focus (first | omega | (simp <;> omega))))), ?_⟩)
    (refine Arr.held_step [5] (by kernel_rfl) (by simp) ?_; refine List.forall_mem_cons.2 ⟨⟨_, rfl, ?_⟩, fun _ h => absurd h List.not_mem_nil⟩; go_wp2_with ((go_at_call 18; (with_reducible refine (C18.out _ (by (with_reducible repeat (first | assumption | exact Below.refl _ _ | (refine b4 ?_ ?_; focus (first | omega | (simp <;> omega))) | refine b2 ?_ | refine Below.drew ?_ | (refine b5 ?_ ?_; focus (first | omega | (simp <;> omega))) | (refine b1 ?_ ?_; focus (first | omega | (simp <;> omega))) | (refine b3 (by assumption) ?_ ?_; focus (first | omega | (simp <;> omega))) | (refine b6 (by assumption) ?_ ?_; focus (first | omega | (simp <;> omega))))))).mono ?_); rintro e w6 ⟨v6, rfl, hO6, hb6⟩; have hz6 := hb6.size; obtain ⟨A6, c6, rfl, hc6, hs6, _⟩ := hO6.form)); refine ⟨by (with_reducible repeat (first | assumption | exact Below.refl _ _ | (refine b4 ?_ ?_; focus (first | omega | (simp <;> omega))) | refine b2 ?_ | refine Below.drew ?_ | (refine b5 ?_ ?_; focus (first | omega | (simp <;> omega))) | (refine b1 ?_ ?_; focus (first | omega | (simp <;> omega))) | (refine b3 (by assumption) ?_ ?_; focus (first | omega | (simp <;> omega))) | (refine b6 (by assumption) ?_ ?_; focus (first | omega | (simp <;> omega))))), ?_⟩)
    (refine Arr.held_step [6] (by kernel_rfl) (by simp) ?_; refine List.forall_mem_cons.2 ⟨⟨_, rfl, ?_⟩, fun _ h => absurd h List.not_mem_nil⟩; go_wp2_with ((go_at_call 27; (with_reducible refine (C27.out _ _ _ hs6).mono ?_); rintro e w7 ⟨rfl, hb7⟩; have hz7 := hb7.size)); refine ⟨by (with_reducible repeat (first | assumption | exact Below.refl _ _ | (refine b4 ?_ ?_; focus (first | omega | (simp <;> omega))) | refine b2 ?_ | refine Below.drew ?_ | (refine b5 ?_ ?_; focus (first | omega | (simp <;> omega))) | (refine b1 ?_ ?_; focus (first | omega | (simp <;> omega))) | (refine b3 (by assumption) ?_ ?_; focus (first | omega | (simp <;> omega))) | (refine b6 (by assumption) ?_ ?_; focus (first | omega | (simp <;> omega))))), ?_⟩)
    (refine Arr.held_step [7] (by kernel_rfl) (by simp) ?_; refine List.forall_mem_cons.2 ⟨⟨_, rfl, ?_⟩, fun _ h => absurd h List.not_mem_nil⟩; go_wp2_with (fail); refine ⟨by (with_reducible repeat (first | assumption | exact Below.refl _ _ | (refine b4 ?_ ?_; focus (first | omega | (simp <;> omega))) | refine b2 ?_ | refine Below.drew ?_ | (refine b5 ?_ ?_; focus (first | omega | (simp <;> omega))) | (refine b1 ?_ ?_; focus (first | omega | (simp <;> omega))) | (refine b3 (by assumption) ?_ ?_; focus (first | omega | (simp <;> omega))) | (refine b6 (by assumption) ?_ ?_; focus (first | omega | (simp <;> omega))))), ?_⟩)
    (refine Arr.held_step [8] (by kernel_rfl) (by simp) ?_; refine List.forall_mem_cons.2 ⟨⟨_, rfl, ?_⟩, fun _ h => absurd h List.not_mem_nil⟩; go_wp2_with (fail); refine ⟨by (with_reducible repeat (first | assumption | exact Below.refl _ _ | (refine b4 ?_ ?_; focus (first | omega | (simp <;> omega))) | refine b2 ?_ | refine Below.drew ?_ | (refine b5 ?_ ?_; focus (first | omega | (simp <;> omega))) | (refine b1 ?_ ?_; focus (first | omega | (simp <;> omega))) | (refine b3 (by assumption) ?_ ?_; focus (first | omega | (simp <;> omega))) | (refine b6 (by assumption) ?_ ?_; focus (first | omega | (simp <;> omega))))), ?_⟩)
    refine wpAnyH_done (by kernel_rfl) ?_ _
    have hBe : Below w1.heap.size w1 w7 := by (with_reducible repeat (first | assumption | exact Below.refl _ _ | (refine b4 ?_ ?_; focus (first | omega | (simp <;> omega))) | refine b2 ?_ | refine Below.drew ?_ | (refine b5 ?_ ?_; focus (first | omega | (simp <;> omega))) | (refine b1 ?_ ?_; focus (first | omega | (simp <;> omega))) | (refine b3 (by assumption) ?_ ?_; focus (first | omega | (simp <;> omega))) | (refine b6 (by assumption) ?_ ?_; focus (first | omega | (simp <;> omega)))))
    go_wp2
    go_ret
    exact ⟨rfl, hB1.trans (hBe.mono (by omega))⟩
theorem w_shaTags (W : World) (hG : Glob W) (K : Nat → B8) (A : Option Addr) (ps : List Bytes8) (cap : Nat) (hc : ps.length ≤ cap) (h : PSl W W.heap.size A ps) (hl : ps.length < 10000000000000) (hll : ∀ k, k < ps.length → (ps.getD k []).length < 1000000000000000) :
    Calls Tryd.prog 8 #[.agg (brow 32 K), .slice A ps.length cap] W fun e w' => e = .returned (.bool true) ∧ Below W.heap.size W w' := c_shaTags K A ps cap W hG h hl hll
end Go.Proofs.YtfkeaglbfembnaaDoor.Sha19
