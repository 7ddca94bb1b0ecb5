/- The first question of the statements on trees of hashes. -/
import Derived.WalkKit
import Derived.StillTactics
import Derived.Outline
import Derived.Deep.DeepCutAuto
import Derived.Deep.CutBlock
import Derived.Test.YtfkeaglbfembnaaDoorMk9
namespace Go.Proofs.YtfkeaglbfembnaaDoor.Mk10
open Go Go.RowKit Go.Proofs.YtfkeaglbfembnaaDoor.Arr Go.Proofs.YtfkeaglbfembnaaDoor.Mid Go.Proofs.YtfkeaglbfembnaaDoor.App Go.Proofs.YtfkeaglbfembnaaDoor.Sha1 Go.Proofs.YtfkeaglbfembnaaDoor.Sha2 Go.Proofs.YtfkeaglbfembnaaDoor.Sha4 Go.Proofs.YtfkeaglbfembnaaDoor.Sha5 Go.Proofs.YtfkeaglbfembnaaDoor.Sha6 Go.Proofs.YtfkeaglbfembnaaDoor.Sha7 Go.Proofs.YtfkeaglbfembnaaDoor.Sha8 Go.Proofs.YtfkeaglbfembnaaDoor.Sha9 Go.Proofs.YtfkeaglbfembnaaDoor.Sha10 Go.Proofs.YtfkeaglbfembnaaDoor.Sha12 Go.Proofs.YtfkeaglbfembnaaDoor.Sha13 Go.Proofs.YtfkeaglbfembnaaDoor.Sha17 Go.Proofs.YtfkeaglbfembnaaDoor.Mk1 Go.Proofs.YtfkeaglbfembnaaDoor.Mk2 Go.Proofs.YtfkeaglbfembnaaDoor.Mk3 Go.Proofs.YtfkeaglbfembnaaDoor.Mk4 Go.Proofs.YtfkeaglbfembnaaDoor.Mk5 Go.Proofs.YtfkeaglbfembnaaDoor.Mk6 Go.Proofs.YtfkeaglbfembnaaDoor.Mk7 Go.Proofs.YtfkeaglbfembnaaDoor.Mk8 Go.Proofs.YtfkeaglbfembnaaDoor.Mk9
set_option maxRecDepth 100000
set_option linter.unusedVariables false
set_option linter.unusedSimpArgs false
theorem checkZ_self (t : Bytes8) (f : Nat → Dig) : checkZ (leafD t) t f 0 0 1 = true := by
  have e := checkZ_in (leafD t) t f 0 0 1 (by omega) (by omega)
  rw [show ((0 : Nat) : Int) = 0 from rfl, show ((1 : Nat) : Int) = 1 from rfl] at e
  rw [e]
  unfold checkB leafD
  rw [show leadF (shaL (0#8 :: t)) f 0 0 1 = (shaL (0#8 :: t), true) by unfold leadF; rw [if_pos rfl]]
  rw [Bool.true_and]; exact eq32_refl _
set_option maxHeartbeats 600000 in
theorem c_awake15 (w : World) (hG : Glob w) : Calls Tryd.prog 28 #[] w fun e w' => e = .returned (.bool true) ∧ Below w.heap.size w w' := by
  have hlt := glob_lt hG
  have ev := eql26
  have hug := unguarded26
  have cv := fun (w : World) (C : Array Value) (n c : Nat) => Lib.run_convert_bytes_const (P := Tryd.prog) w 29 5 C n c Tryd.underlying29 Tryd.underlying5
  obtain ⟨D, hD⟩ : ∃ D, D = leafD [97#8] := ⟨_, rfl⟩
  have HD := hid hD
  clear hD
  have hq := eq32_refl D
  go_enter Tryd.func28, Tryd.ntmps28
  go_wp2_with fail
  refine name_calls _ (fun W hW => ?_)
  have g0 : W.heap[w.heap.size]? = some (.cells #[.int .u8 97] 5 (1, 2)) := by rw [hW]; (with_reducible repeat (first | assumption | (refine p1 ?_; (first | omega | (simp <;> omega))) | (refine p2 ?_ ?_; focus (first | omega | (simp <;> omega))) | refine p3 ?_ | refine p4 ?_ | apply p5 | (refine p6 ?_ ?_; focus (first | omega | (simp <;> omega))) | apply p7 | (refine p8 ?_ ?_; focus (first | omega | (simp <;> omega))) | (refine p9 (by assumption) ?_ ?_; focus (first | omega | (simp <;> omega))) | (refine p10 (by assumption) ?_ ?_; focus (first | omega | (simp <;> omega)))))
  have g1 : W.heap[w.heap.size + 1]? = some (.cells #[.slice (some ⟨w.heap.size, 0, none⟩) 1 1] 29 (0, 0)) := by rw [hW]; (with_reducible repeat (first | assumption | (refine p1 ?_; (first | omega | (simp <;> omega))) | (refine p2 ?_ ?_; focus (first | omega | (simp <;> omega))) | refine p3 ?_ | refine p4 ?_ | apply p5 | (refine p6 ?_ ?_; focus (first | omega | (simp <;> omega))) | apply p7 | (refine p8 ?_ ?_; focus (first | omega | (simp <;> omega))) | (refine p9 (by assumption) ?_ ?_; focus (first | omega | (simp <;> omega))) | (refine p10 (by assumption) ?_ ?_; focus (first | omega | (simp <;> omega)))))
  have hB : Below w.heap.size w W := by rw [hW]; (with_reducible repeat (first | assumption | exact Below.refl _ _ | (refine b4 ?_ ?_; focus (first | omega | (simp <;> omega))) | refine b2 ?_ | refine Below.drew ?_ | (refine b5 ?_ ?_; focus (first | omega | (simp <;> omega))) | (refine b1 ?_ ?_; focus (first | omega | (simp <;> omega))) | (refine b3 (by assumption) ?_ ?_; focus (first | omega | (simp <;> omega))) | (refine b6 (by assumption) ?_ ?_; focus (first | omega | (simp <;> omega)))))
  have hl1 := lt_of g1
  clear hW
  have c34 := c_root1 [97#8] (some ⟨w.heap.size + 1, 0, none⟩) 1 W.heap.size W (glob_below hG hB hlt) (Nat.le_refl _) (psl_one (l := [97#8]) g1 hl1 (Nat.le_refl _) (bsl_one (v := 97#8) g0 rfl)) (by simp)
  rw [← HD.out] at c34
  have C34 := hid c34
  clear c34
  refine (C34.out).mono ?_
  rintro e w1 ⟨rfl, hb1⟩
  have hB1 : Below w.heap.size w w1 := by
    have hz := hB.size
    (with_reducible repeat (first | assumption | exact Below.refl _ _ | (refine b4 ?_ ?_; focus (first | omega | (simp <;> omega))) | refine b2 ?_ | refine Below.drew ?_ | (refine b5 ?_ ?_; focus (first | omega | (simp <;> omega))) | (refine b1 ?_ ?_; focus (first | omega | (simp <;> omega))) | (refine b3 (by assumption) ?_ ?_; focus (first | omega | (simp <;> omega))) | (refine b6 (by assumption) ?_ ?_; focus (first | omega | (simp <;> omega)))))
  clear g0 g1 hB hl1 hb1 C34
  go_wp2_with fail
  refine name_calls _ (fun W hW => ?_)
  have g0 : W.heap[w1.heap.size]? = some (.cells #[.int .u8 97] 5 (1, 2)) := by rw [hW]; (with_reducible repeat (first | assumption | (refine p1 ?_; (first | omega | (simp <;> omega))) | (refine p2 ?_ ?_; focus (first | omega | (simp <;> omega))) | refine p3 ?_ | refine p4 ?_ | apply p5 | (refine p6 ?_ ?_; focus (first | omega | (simp <;> omega))) | apply p7 | (refine p8 ?_ ?_; focus (first | omega | (simp <;> omega))) | (refine p9 (by assumption) ?_ ?_; focus (first | omega | (simp <;> omega))) | (refine p10 (by assumption) ?_ ?_; focus (first | omega | (simp <;> omega)))))
  have hB : Below w.heap.size w W := by
    have hz := hB1.size
    rw [hW]; (with_reducible repeat (first | assumption | exact Below.refl _ _ | (refine b4 ?_ ?_; focus (first | omega | (simp <;> omega))) | refine b2 ?_ | refine Below.drew ?_ | (refine b5 ?_ ?_; focus (first | omega | (simp <;> omega))) | (refine b1 ?_ ?_; focus (first | omega | (simp <;> omega))) | (refine b3 (by assumption) ?_ ?_; focus (first | omega | (simp <;> omega))) | (refine b6 (by assumption) ?_ ?_; focus (first | omega | (simp <;> omega)))))
  clear hW hB1
  have c37 := c_refLeaf (some ⟨w1.heap.size, 0, none⟩) [97#8] 1 W.heap.size W (Nat.le_refl _) (bsl_one (v := 97#8) g0 rfl) (by simp)
  rw [← HD.out] at c37
  have C37 := hid c37
  clear c37
  refine (C37.out).mono ?_
  rintro e w2 ⟨rfl, hb2⟩
  have hB2 : Below w.heap.size w w2 := by
    have hz := hB.size
    (with_reducible repeat (first | assumption | exact Below.refl _ _ | (refine b4 ?_ ?_; focus (first | omega | (simp <;> omega))) | refine b2 ?_ | refine Below.drew ?_ | (refine b5 ?_ ?_; focus (first | omega | (simp <;> omega))) | (refine b1 ?_ ?_; focus (first | omega | (simp <;> omega))) | (refine b3 (by assumption) ?_ ?_; focus (first | omega | (simp <;> omega))) | (refine b6 (by assumption) ?_ ?_; focus (first | omega | (simp <;> omega)))))
  clear g0 hB hb2 C37
  go_wp2_with fail
  refine name_calls _ (fun W hW => ?_)
  have g0 : W.heap[w2.heap.size]? = some (.cells #[.int .u8 97] 5 (1, 2)) := by rw [hW]; (with_reducible repeat (first | assumption | (refine p1 ?_; (first | omega | (simp <;> omega))) | (refine p2 ?_ ?_; focus (first | omega | (simp <;> omega))) | refine p3 ?_ | refine p4 ?_ | apply p5 | (refine p6 ?_ ?_; focus (first | omega | (simp <;> omega))) | apply p7 | (refine p8 ?_ ?_; focus (first | omega | (simp <;> omega))) | (refine p9 (by assumption) ?_ ?_; focus (first | omega | (simp <;> omega))) | (refine p10 (by assumption) ?_ ?_; focus (first | omega | (simp <;> omega)))))
  have hB : Below w.heap.size w W := by
    have hz := hB2.size
    rw [hW]; (with_reducible repeat (first | assumption | exact Below.refl _ _ | (refine b4 ?_ ?_; focus (first | omega | (simp <;> omega))) | refine b2 ?_ | refine Below.drew ?_ | (refine b5 ?_ ?_; focus (first | omega | (simp <;> omega))) | (refine b1 ?_ ?_; focus (first | omega | (simp <;> omega))) | (refine b3 (by assumption) ?_ ?_; focus (first | omega | (simp <;> omega))) | (refine b6 (by assumption) ?_ ?_; focus (first | omega | (simp <;> omega)))))
  clear hW hB2
  have c37 := c_refLeaf (some ⟨w2.heap.size, 0, none⟩) [97#8] 1 W.heap.size W (Nat.le_refl _) (bsl_one (v := 97#8) g0 rfl) (by simp)
  rw [← HD.out] at c37
  have C37 := hid c37
  clear c37
  refine (C37.out).mono ?_
  rintro e w3 ⟨rfl, hb3⟩
  have hB3 : Below w.heap.size w w3 := by
    have hz := hB.size
    (with_reducible repeat (first | assumption | exact Below.refl _ _ | (refine b4 ?_ ?_; focus (first | omega | (simp <;> omega))) | refine b2 ?_ | refine Below.drew ?_ | (refine b5 ?_ ?_; focus (first | omega | (simp <;> omega))) | (refine b1 ?_ ?_; focus (first | omega | (simp <;> omega))) | (refine b3 (by assumption) ?_ ?_; focus (first | omega | (simp <;> omega))) | (refine b6 (by assumption) ?_ ?_; focus (first | omega | (simp <;> omega)))))
  clear g0 hB hb3 C37
  go_wp2_with fail
  refine name_calls _ (fun W hW => ?_)
  have g0 : W.heap[w3.heap.size]? = some (.cells #[.int .u8 97] 5 (1, 2)) := by rw [hW]; (with_reducible repeat (first | assumption | (refine p1 ?_; (first | omega | (simp <;> omega))) | (refine p2 ?_ ?_; focus (first | omega | (simp <;> omega))) | refine p3 ?_ | refine p4 ?_ | apply p5 | (refine p6 ?_ ?_; focus (first | omega | (simp <;> omega))) | apply p7 | (refine p8 ?_ ?_; focus (first | omega | (simp <;> omega))) | (refine p9 (by assumption) ?_ ?_; focus (first | omega | (simp <;> omega))) | (refine p10 (by assumption) ?_ ?_; focus (first | omega | (simp <;> omega)))))
  have hB : Below w.heap.size w W := by
    have hz := hB3.size
    rw [hW]; (with_reducible repeat (first | assumption | exact Below.refl _ _ | (refine b4 ?_ ?_; focus (first | omega | (simp <;> omega))) | refine b2 ?_ | refine Below.drew ?_ | (refine b5 ?_ ?_; focus (first | omega | (simp <;> omega))) | (refine b1 ?_ ?_; focus (first | omega | (simp <;> omega))) | (refine b3 (by assumption) ?_ ?_; focus (first | omega | (simp <;> omega))) | (refine b6 (by assumption) ?_ ?_; focus (first | omega | (simp <;> omega)))))
  clear hW hB3
  have c29 := c_check D (fun _ => D) (some ⟨w3.heap.size, 0, none⟩) none [97#8] 1 0 0 W.heap.size 0 1 W (glob_below hG hB hlt) (Nat.le_refl _) (Nat.le_refl _) (bsl_one (v := 97#8) g0 rfl) (by simp) (Nat.le_refl _) (by omega) (fun h => absurd h (by omega))
  have hc : checkZ D [97#8] (fun _ => D) 0 0 1 = true := by rw [HD.out]; exact checkZ_self _ _
  rw [hc] at c29
  have C29 := hid c29
  clear c29 hc
  refine (C29.out).mono ?_
  rintro e w4 ⟨rfl, hb4⟩
  have hB4 : Below w.heap.size w w4 := by
    have hz := hB.size
    (with_reducible repeat (first | assumption | exact Below.refl _ _ | (refine b4 ?_ ?_; focus (first | omega | (simp <;> omega))) | refine b2 ?_ | refine Below.drew ?_ | (refine b5 ?_ ?_; focus (first | omega | (simp <;> omega))) | (refine b1 ?_ ?_; focus (first | omega | (simp <;> omega))) | (refine b3 (by assumption) ?_ ?_; focus (first | omega | (simp <;> omega))) | (refine b6 (by assumption) ?_ ?_; focus (first | omega | (simp <;> omega)))))
  clear g0 hB hb4 C29
  go_wp2_with fail
  go_ret
  exact ⟨rfl, hB4⟩
end Go.Proofs.YtfkeaglbfembnaaDoor.Mk10
