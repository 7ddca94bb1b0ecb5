/- The law MerkleRoots' walk. -/
import Derived.WalkKit
import Derived.StillTactics
import Derived.Outline
import Derived.Deep.DeepCutAuto
import Derived.Deep.CutBlock
import Derived.Test.YtfkeaglbfembnaaDoorMk10
import Derived.Test.YtfkeaglbfembnaaDoorMk18
namespace Go.Proofs.YtfkeaglbfembnaaDoor.Mk19
open Go Go.RowKit Go.Proofs.YtfkeaglbfembnaaDoor.Arr Go.Proofs.YtfkeaglbfembnaaDoor.Mid Go.Proofs.YtfkeaglbfembnaaDoor.App Go.Proofs.YtfkeaglbfembnaaDoor.Sha1 Go.Proofs.YtfkeaglbfembnaaDoor.Sha2 Go.Proofs.YtfkeaglbfembnaaDoor.Sha4 Go.Proofs.YtfkeaglbfembnaaDoor.Sha5 Go.Proofs.YtfkeaglbfembnaaDoor.Sha6 Go.Proofs.YtfkeaglbfembnaaDoor.Sha7 Go.Proofs.YtfkeaglbfembnaaDoor.Sha8 Go.Proofs.YtfkeaglbfembnaaDoor.Sha9 Go.Proofs.YtfkeaglbfembnaaDoor.Sha10 Go.Proofs.YtfkeaglbfembnaaDoor.Sha12 Go.Proofs.YtfkeaglbfembnaaDoor.Sha13 Go.Proofs.YtfkeaglbfembnaaDoor.Sha17 Go.Proofs.YtfkeaglbfembnaaDoor.Mk1 Go.Proofs.YtfkeaglbfembnaaDoor.Mk2 Go.Proofs.YtfkeaglbfembnaaDoor.Mk3 Go.Proofs.YtfkeaglbfembnaaDoor.Mk4 Go.Proofs.YtfkeaglbfembnaaDoor.Mk5 Go.Proofs.YtfkeaglbfembnaaDoor.Mk6 Go.Proofs.YtfkeaglbfembnaaDoor.Mk7 Go.Proofs.YtfkeaglbfembnaaDoor.Mk8 Go.Proofs.YtfkeaglbfembnaaDoor.Mk9 Go.Proofs.YtfkeaglbfembnaaDoor.Mk10 Go.Proofs.YtfkeaglbfembnaaDoor.Mk13 Go.Proofs.YtfkeaglbfembnaaDoor.Mk14 Go.Proofs.YtfkeaglbfembnaaDoor.Mk15 Go.Proofs.YtfkeaglbfembnaaDoor.Mk16 Go.Proofs.YtfkeaglbfembnaaDoor.Mk17 Go.Proofs.YtfkeaglbfembnaaDoor.Mk18
set_option maxRecDepth 100000
set_option linter.unusedVariables false
set_option linter.unusedSimpArgs false
theorem dsl_nil (w : World) (B : Nat) (f : Nat → Dig) : DSl w B none 0 f := fun h => absurd h (by omega)
set_option maxHeartbeats 1000000 in
theorem c_merkleRoots (A : Option Addr) (ps : List Bytes8) (cap : Nat) (i : Int) (w : World) (hG : Glob w) (hc : ps.length ≤ cap) (h : PSl w w.heap.size A ps) (hl : ps.length < 10000000000000) (hll : ∀ k, k < ps.length → (ps.getD k []).length < 1000000000000000) :
    Calls Tryd.prog 10 #[.slice A ps.length cap, .int .i64 i] w fun e w' => e = .returned (.bool true) ∧ Below w.heap.size w w' := by
  have hlt := glob_lt hG
  have ev := eql26
  have hug := unguarded26
  go_enter Tryd.func10, Tryd.ntmps10
  go_wp2_with ((go_at_call 28; (with_reducible refine (c_awake15 _ hG).mono ?_); rintro e w1 ⟨rfl, hb1⟩; have hz1 := hb1.size; (try simp only [World.size_alloc, World.size_setCell, World.size_drew, setRow_size, Arr.size_drewN] at hz1)))
  refine (c_few15 A ps cap w.heap.size w1 (h.below hb1 (Nat.le_refl _)) hl hll).mono ?_
  rintro e w2 ⟨b, rfl, hb, rfl⟩
  cases b
  · clear hll
    go_wp2_with ((go_at_call 28; (with_reducible refine (c_awake15 _ (glob_below hG hb1 hlt)).mono ?_); rintro e w3 ⟨rfl, hb3⟩))
    go_ret
    exact ⟨rfl, by (with_reducible repeat (first | assumption | exact Below.refl _ _ | (refine b4 ?_ ?_; focus (first | omega | (simp <;> omega))) | refine b2 ?_ | refine Below.drew ?_ | (refine b5 ?_ ?_; focus (first | omega | (simp <;> omega))) | (refine b1 ?_ ?_; focus (first | omega | (simp <;> omega))) | (refine b3 (by assumption) ?_ ?_; focus (first | omega | (simp <;> omega))) | (refine b6 (by assumption) ?_ ?_; focus (first | omega | (simp <;> omega)))))⟩
  · obtain ⟨hlen, htx⟩ := hb rfl
    have htx2 : ∀ j, j < ps.length → (ps.getD j []).length < 1000000000000 := fun j hj => Nat.lt_of_le_of_lt (htx j hj) (by omega)
    clear hb hll htx
    obtain ⟨D, hD⟩ : ∃ D, D = rootL ps := ⟨_, rfl⟩
    have C34 : Hid (∀ W : World, Below w.heap.size w W → Calls Tryd.prog 34 #[.slice A ps.length cap] W fun e w' => e = .returned (.agg (brow 32 D)) ∧ Below W.heap.size W w') := by
      intro W hW; rw [hD]
      exact c_root ps.length ps A cap w.heap.size W rfl (glob_below hG hW hlt) hc (by omega) hW.size (h.below hW (Nat.le_refl _)) htx2
    have C35 : Hid (∀ W : World, Below w.heap.size w W → Calls Tryd.prog 35 #[.slice A ps.length cap] W fun e w' => e = .returned (.agg (brow 32 D)) ∧ Below W.heap.size W w') := by
      intro W hW; rw [hD]
      exact c_refRoot ps.length ps A cap w.heap.size W rfl (glob_below hG hW hlt) hc (by omega) hW.size (h.below hW (Nat.le_refl _)) htx2
    have hq := eq32_refl D
    clear hD
    by_cases hi : i < 0 ∨ (ps.length : Int) ≤ i
    · have HI := hid hi
      clear hi
      go_wp2_with (first | (go_at_call 32; (with_reducible refine (c_proof_out i A ps.length cap _ HI.out).mono ?_); rintro e w3 ⟨rfl, rfl⟩) | (go_at_call 33; (with_reducible refine (c_refProof_out i A ps.length cap _ HI.out).mono ?_); rintro e w4 ⟨rfl, rfl⟩) | (go_at_call 34; (with_reducible refine (C34.out _ (by (with_reducible repeat (first | assumption | exact Below.refl _ _ | (refine b4 ?_ ?_; focus (first | omega | (simp <;> omega))) | refine b2 ?_ | refine Below.drew ?_ | (refine b5 ?_ ?_; focus (first | omega | (simp <;> omega))) | (refine b1 ?_ ?_; focus (first | omega | (simp <;> omega))) | (refine b3 (by assumption) ?_ ?_; focus (first | omega | (simp <;> omega))) | (refine b6 (by assumption) ?_ ?_; focus (first | omega | (simp <;> omega))))))).mono ?_); rintro e w5 ⟨rfl, hb5⟩; have hz5 := hb5.size) | (go_at_call 35; (with_reducible refine (C35.out _ (by (with_reducible repeat (first | assumption | exact Below.refl _ _ | (refine b4 ?_ ?_; focus (first | omega | (simp <;> omega))) | refine b2 ?_ | refine Below.drew ?_ | (refine b5 ?_ ?_; focus (first | omega | (simp <;> omega))) | (refine b1 ?_ ?_; focus (first | omega | (simp <;> omega))) | (refine b3 (by assumption) ?_ ?_; focus (first | omega | (simp <;> omega))) | (refine b6 (by assumption) ?_ ?_; focus (first | omega | (simp <;> omega))))))).mono ?_); rintro e w6 ⟨rfl, hb6⟩; have hz6 := hb6.size) | (go_at_call 36; (with_reducible refine (c_sameD (fun _ => dz) none none 0 0 0 _ (by omega) (dsl_nil _ _ _) (dsl_nil _ _ _)).mono ?_); rintro e w7 ⟨rfl, hb7⟩; have hz7 := hb7.size))
      go_ret
      exact ⟨rfl, by (with_reducible repeat (first | assumption | exact Below.refl _ _ | (refine b4 ?_ ?_; focus (first | omega | (simp <;> omega))) | refine b2 ?_ | refine Below.drew ?_ | (refine b5 ?_ ?_; focus (first | omega | (simp <;> omega))) | (refine b1 ?_ ?_; focus (first | omega | (simp <;> omega))) | (refine b3 (by assumption) ?_ ?_; focus (first | omega | (simp <;> omega))) | (refine b6 (by assumption) ?_ ?_; focus (first | omega | (simp <;> omega)))))⟩
    · obtain ⟨I, rfl⟩ : ∃ I : Nat, i = (I : Int) := ⟨i.toNat, by omega⟩
      have hIl : I < ps.length := by omega
      clear hi
      have hpl : (prfL ps I).length ≤ 1000000 := by rw [prfL_len ps.length ps I rfl]; have := steps_len ps.length I; omega
      obtain ⟨L, hL⟩ : ∃ L, L = prfL ps I := ⟨_, rfl⟩
      rw [← hL] at hpl
      have C32 : Hid (∀ W : World, Below w.heap.size w W → Calls Tryd.prog 32 #[.int .i64 I, .slice A ps.length cap] W (RetPrf W L)) := by
        intro W hW; rw [hL]
        exact c_proof ps ps.length I cap w.heap.size A W rfl hIl (glob_below hG hW hlt) hc (by omega) hW.size (h.below hW (Nat.le_refl _)) htx2
      have C33 : Hid (∀ W : World, Below w.heap.size w W → Calls Tryd.prog 33 #[.int .i64 I, .slice A ps.length cap] W (RetPrf W L)) := by
        intro W hW; rw [hL]
        exact c_refProof ps.length ps I cap w.heap.size A W rfl hIl (glob_below hG hW hlt) hc (by omega) hW.size (h.below hW (Nat.le_refl _)) htx2
      clear hL htx2
      go_wp2_with (first | (go_at_call 32; (with_reducible refine (C32.out _ (by (with_reducible repeat (first | assumption | exact Below.refl _ _ | (refine b4 ?_ ?_; focus (first | omega | (simp <;> omega))) | refine b2 ?_ | refine Below.drew ?_ | (refine b5 ?_ ?_; focus (first | omega | (simp <;> omega))) | (refine b1 ?_ ?_; focus (first | omega | (simp <;> omega))) | (refine b3 (by assumption) ?_ ?_; focus (first | omega | (simp <;> omega))) | (refine b6 (by assumption) ?_ ?_; focus (first | omega | (simp <;> omega))))))).mono ?_); rintro e w3 ⟨v3, rfl, hO3, hb3⟩; obtain ⟨A3, c3, rfl, hc3, hd3⟩ := OwnD.form hO3; have hz3 := hb3.size) | (go_at_call 33; (with_reducible refine (C33.out _ (by (with_reducible repeat (first | assumption | exact Below.refl _ _ | (refine b4 ?_ ?_; focus (first | omega | (simp <;> omega))) | refine b2 ?_ | refine Below.drew ?_ | (refine b5 ?_ ?_; focus (first | omega | (simp <;> omega))) | (refine b1 ?_ ?_; focus (first | omega | (simp <;> omega))) | (refine b3 (by assumption) ?_ ?_; focus (first | omega | (simp <;> omega))) | (refine b6 (by assumption) ?_ ?_; focus (first | omega | (simp <;> omega))))))).mono ?_); rintro e w4 ⟨v4, rfl, hO4, hb4⟩; obtain ⟨A4, c4, rfl, hc4, hd4⟩ := OwnD.form hO4; have hz4 := hb4.size) | (go_at_call 34; (with_reducible refine (C34.out _ (by (with_reducible repeat (first | assumption | exact Below.refl _ _ | (refine b4 ?_ ?_; focus (first | omega | (simp <;> omega))) | refine b2 ?_ | refine Below.drew ?_ | (refine b5 ?_ ?_; focus (first | omega | (simp <;> omega))) | (refine b1 ?_ ?_; focus (first | omega | (simp <;> omega))) | (refine b3 (by assumption) ?_ ?_; focus (first | omega | (simp <;> omega))) | (refine b6 (by assumption) ?_ ?_; focus (first | omega | (simp <;> omega))))))).mono ?_); rintro e w5 ⟨rfl, hb5⟩; have hz5 := hb5.size) | (go_at_call 35; (with_reducible refine (C35.out _ (by (with_reducible repeat (first | assumption | exact Below.refl _ _ | (refine b4 ?_ ?_; focus (first | omega | (simp <;> omega))) | refine b2 ?_ | refine Below.drew ?_ | (refine b5 ?_ ?_; focus (first | omega | (simp <;> omega))) | (refine b1 ?_ ?_; focus (first | omega | (simp <;> omega))) | (refine b3 (by assumption) ?_ ?_; focus (first | omega | (simp <;> omega))) | (refine b6 (by assumption) ?_ ?_; focus (first | omega | (simp <;> omega))))))).mono ?_); rintro e w6 ⟨rfl, hb6⟩; have hz6 := hb6.size; have hd6 := (hd3.below (hb4.trans ((hb5.mono hz4).trans (hb6.mono (Nat.le_trans hz4 hz5)))) (Nat.le_refl _)).mono (Nat.le_trans hz4 (Nat.le_trans hz5 hz6)); have hd7 := (hd4.below (hb5.trans (hb6.mono hz5)) (Nat.le_refl _)).mono (Nat.le_trans hz5 hz6)) | (go_at_call 36; (with_reducible refine (c_sameD (dF L) A3 A4 L.length c3 c4 _ hpl hd6 hd7).mono ?_); rintro e w7 ⟨rfl, hb7⟩; have hz7 := hb7.size))
      go_ret
      exact ⟨rfl, by (with_reducible repeat (first | assumption | exact Below.refl _ _ | (refine b4 ?_ ?_; focus (first | omega | (simp <;> omega))) | refine b2 ?_ | refine Below.drew ?_ | (refine b5 ?_ ?_; focus (first | omega | (simp <;> omega))) | (refine b1 ?_ ?_; focus (first | omega | (simp <;> omega))) | (refine b3 (by assumption) ?_ ?_; focus (first | omega | (simp <;> omega))) | (refine b6 (by assumption) ?_ ?_; focus (first | omega | (simp <;> omega)))))⟩
theorem w_merkleRoots (W : World) (hG : Glob W) (A : Option Addr) (ps : List Bytes8) (cap : Nat) (hc : ps.length ≤ cap) (h : PSl W W.heap.size A ps) (hl : ps.length < 10000000000000) (hll : ∀ k, k < ps.length → (ps.getD k []).length < 1000000000000000) (i : Int) (wi : (Lit.int .i64 i).wf = true) :
    Calls Tryd.prog 10 #[.slice A ps.length cap, .int .i64 i] W fun e w' => e = .returned (.bool true) ∧ Below W.heap.size W w' := c_merkleRoots A ps cap i W hG hc h hl hll
end Go.Proofs.YtfkeaglbfembnaaDoor.Mk19
