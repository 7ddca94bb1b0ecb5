/- The root of a tree of hashes, walked. -/
import Derived.WalkKit
import Derived.StillTactics
import Derived.Outline
import Derived.Deep.DeepCutAuto
import Derived.Deep.CutBlock
import Derived.Test.YtfkeaglbfembnaaDoorMk8
namespace Go.Proofs.YtfkeaglbfembnaaDoor.Mk9
open Go Go.RowKit Go.Proofs.YtfkeaglbfembnaaDoor.Arr Go.Proofs.YtfkeaglbfembnaaDoor.Mid Go.Proofs.YtfkeaglbfembnaaDoor.App Go.Proofs.YtfkeaglbfembnaaDoor.Sha1 Go.Proofs.YtfkeaglbfembnaaDoor.Sha2 Go.Proofs.YtfkeaglbfembnaaDoor.Sha4 Go.Proofs.YtfkeaglbfembnaaDoor.Sha5 Go.Proofs.YtfkeaglbfembnaaDoor.Sha6 Go.Proofs.YtfkeaglbfembnaaDoor.Sha7 Go.Proofs.YtfkeaglbfembnaaDoor.Sha8 Go.Proofs.YtfkeaglbfembnaaDoor.Sha9 Go.Proofs.YtfkeaglbfembnaaDoor.Sha10 Go.Proofs.YtfkeaglbfembnaaDoor.Sha12 Go.Proofs.YtfkeaglbfembnaaDoor.Sha13 Go.Proofs.YtfkeaglbfembnaaDoor.Sha17 Go.Proofs.YtfkeaglbfembnaaDoor.Mk1 Go.Proofs.YtfkeaglbfembnaaDoor.Mk2 Go.Proofs.YtfkeaglbfembnaaDoor.Mk3 Go.Proofs.YtfkeaglbfembnaaDoor.Mk4 Go.Proofs.YtfkeaglbfembnaaDoor.Mk5 Go.Proofs.YtfkeaglbfembnaaDoor.Mk6 Go.Proofs.YtfkeaglbfembnaaDoor.Mk7 Go.Proofs.YtfkeaglbfembnaaDoor.Mk8
set_option maxRecDepth 100000
set_option linter.unusedVariables false
set_option linter.unusedSimpArgs false
set_option maxHeartbeats 60000 in
theorem c_root0 (A : Option Addr) (cap : Nat) (w : World) (hG : Glob w) :
    Calls Tryd.prog 34 #[.slice A 0 cap] w fun e w' => e = .returned (.agg (brow 32 (shaL [2#8]))) ∧ Below w.heap.size w w' := by
  have z26 := zero26
  have hlt := glob_lt hG
  obtain ⟨D, hD⟩ : ∃ D, D = shaL [2#8] := ⟨_, rfl⟩
  rw [← hD]
  have C16 : Hid (∀ (W : World) (b c : Nat), Below w.heap.size w W → W.heap[c]? = some (.cells #[.int .u8 2] 5 (0, 0)) → W.heap[b]? = some (.cells #[.slice (some ⟨c, 0, none⟩) 1 1] 29 (0, 0)) → Calls Tryd.prog 16 #[.slice (some ⟨b, 0, none⟩) 1 1] W fun e w' => e = .returned (.agg (brow 32 D)) ∧ Below W.heap.size W w') := by
    intro W b c hW hc hb
    have c16 := c_progSum (some ⟨b, 0, none⟩) [[2#8]] 1 W.heap.size W (glob_below hG hW hlt) (Nat.le_refl _) (psl_lit (v := 2#8) hc hb) (by show 1 < _; omega) (by simp)
    have e : [[2#8]].flatten = [2#8] := by simp only [List.flatten_cons, List.flatten_nil, List.append_nil]
    rw [e, ← hD] at c16
    exact c16
  clear hD
  go_enter Tryd.func34, Tryd.ntmps34
  go_upto_region 6 with fail
  go_wp2_with fail
  refine name_calls _ (fun W hW => ?_)
  have s0 : W.heap[w.heap.size]? = some (.cells (brow 32 fun _ => 0#8) 26 (0, 0)) := by rw [hW]; (with_reducible repeat (first | assumption | (refine p1 ?_; (first | omega | (simp <;> omega))) | (refine p2 ?_ ?_; focus (first | omega | (simp <;> omega))) | refine p3 ?_ | refine p4 ?_ | apply p5 | (refine p6 ?_ ?_; focus (first | omega | (simp <;> omega))) | apply p7 | (refine p8 ?_ ?_; focus (first | omega | (simp <;> omega))) | (refine p9 (by assumption) ?_ ?_; focus (first | omega | (simp <;> omega))) | (refine p10 (by assumption) ?_ ?_; focus (first | omega | (simp <;> omega)))))
  have s1 : W.heap[w.heap.size + 1]? = some (.cells #[.int .u8 2] 5 (0, 0)) := by rw [hW]; (with_reducible repeat (first | assumption | (refine p1 ?_; (first | omega | (simp <;> omega))) | (refine p2 ?_ ?_; focus (first | omega | (simp <;> omega))) | refine p3 ?_ | refine p4 ?_ | apply p5 | (refine p6 ?_ ?_; focus (first | omega | (simp <;> omega))) | apply p7 | (refine p8 ?_ ?_; focus (first | omega | (simp <;> omega))) | (refine p9 (by assumption) ?_ ?_; focus (first | omega | (simp <;> omega))) | (refine p10 (by assumption) ?_ ?_; focus (first | omega | (simp <;> omega)))))
  have s2 : W.heap[w.heap.size + 1 + 1]? = some (.cells #[.slice (some ⟨w.heap.size + 1, 0, none⟩) 1 1] 29 (0, 0)) := by rw [hW]; (with_reducible repeat (first | assumption | (refine p1 ?_; (first | omega | (simp <;> omega))) | (refine p2 ?_ ?_; focus (first | omega | (simp <;> omega))) | refine p3 ?_ | refine p4 ?_ | apply p5 | (refine p6 ?_ ?_; focus (first | omega | (simp <;> omega))) | apply p7 | (refine p8 ?_ ?_; focus (first | omega | (simp <;> omega))) | (refine p9 (by assumption) ?_ ?_; focus (first | omega | (simp <;> omega))) | (refine p10 (by assumption) ?_ ?_; focus (first | omega | (simp <;> omega)))))
  have hB9 : Below w.heap.size w W := by rw [hW]; (with_reducible repeat (first | assumption | exact Below.refl _ _ | (refine b4 ?_ ?_; focus (first | omega | (simp <;> omega))) | refine b2 ?_ | refine Below.drew ?_ | (refine b5 ?_ ?_; focus (first | omega | (simp <;> omega))) | (refine b1 ?_ ?_; focus (first | omega | (simp <;> omega))) | (refine b3 (by assumption) ?_ ?_; focus (first | omega | (simp <;> omega))) | (refine b6 (by assumption) ?_ ?_; focus (first | omega | (simp <;> omega)))))
  clear hW
  have hl3 := lt_of s2
  refine (C16.out W _ _ hB9 s1 s2).mono ?_
  rintro e w6 ⟨rfl, hb6⟩
  have hz6 := hb6.size
  have u0 : w6.heap[w.heap.size]? = some (.cells (brow 32 fun _ => 0#8) 26 (0, 0)) := by (with_reducible repeat (first | assumption | (refine p1 ?_; (first | omega | (simp <;> omega))) | (refine p2 ?_ ?_; focus (first | omega | (simp <;> omega))) | refine p3 ?_ | refine p4 ?_ | apply p5 | (refine p6 ?_ ?_; focus (first | omega | (simp <;> omega))) | apply p7 | (refine p8 ?_ ?_; focus (first | omega | (simp <;> omega))) | (refine p9 (by assumption) ?_ ?_; focus (first | omega | (simp <;> omega))) | (refine p10 (by assumption) ?_ ?_; focus (first | omega | (simp <;> omega)))))
  have hB6 : Below w.heap.size w w6 := by
    have hz9 := hB9.size
    (with_reducible repeat (first | assumption | exact Below.refl _ _ | (refine b4 ?_ ?_; focus (first | omega | (simp <;> omega))) | refine b2 ?_ | refine Below.drew ?_ | (refine b5 ?_ ?_; focus (first | omega | (simp <;> omega))) | (refine b1 ?_ ?_; focus (first | omega | (simp <;> omega))) | (refine b3 (by assumption) ?_ ?_; focus (first | omega | (simp <;> omega))) | (refine b6 (by assumption) ?_ ?_; focus (first | omega | (simp <;> omega)))))
  clear s0 s1 s2 hb6 C16
  go_wp2_with (((with_reducible refine Arr.arm_store row26 rfl ?_); refine ⟨rfl, _, _, _, _, rfl, rfl, by (with_reducible repeat (first | assumption | (refine p1 ?_; (first | omega | (simp <;> omega))) | (refine p2 ?_ ?_; focus (first | omega | (simp <;> omega))) | refine p3 ?_ | refine p4 ?_ | apply p5 | (refine p6 ?_ ?_; focus (first | omega | (simp <;> omega))) | apply p7 | (refine p8 ?_ ?_; focus (first | omega | (simp <;> omega))) | (refine p9 (by assumption) ?_ ?_; focus (first | omega | (simp <;> omega))) | (refine p10 (by assumption) ?_ ?_; focus (first | omega | (simp <;> omega))))), by (exact brow_size _ _), by (exact brow_size _ _), by (exact brow_one _ _), ?_⟩))
  refine Arr.ret_row rfl row26 rfl ⟨_, _, _, _, rfl, by (with_reducible repeat (first | assumption | (refine p1 ?_; (first | omega | (simp <;> omega))) | (refine p2 ?_ ?_; focus (first | omega | (simp <;> omega))) | refine p3 ?_ | refine p4 ?_ | apply p5 | (refine p6 ?_ ?_; focus (first | omega | (simp <;> omega))) | apply p7 | (refine p8 ?_ ?_; focus (first | omega | (simp <;> omega))) | (refine p9 (by assumption) ?_ ?_; focus (first | omega | (simp <;> omega))) | (refine p10 (by assumption) ?_ ?_; focus (first | omega | (simp <;> omega))))), by (exact brow_size _ _), ?_⟩
  exact ⟨rfl, by (with_reducible repeat (first | assumption | exact Below.refl _ _ | (refine b4 ?_ ?_; focus (first | omega | (simp <;> omega))) | refine b2 ?_ | refine Below.drew ?_ | (refine b5 ?_ ?_; focus (first | omega | (simp <;> omega))) | (refine b1 ?_ ?_; focus (first | omega | (simp <;> omega))) | (refine b3 (by assumption) ?_ ?_; focus (first | omega | (simp <;> omega))) | (refine b6 (by assumption) ?_ ?_; focus (first | omega | (simp <;> omega)))))⟩
set_option maxHeartbeats 600000 in
theorem c_root1 (l : Bytes8) (A : Option Addr) (cap B : Nat) (w : World) (hG : Glob w) (hB : B ≤ w.heap.size) (h : PSl w B A [l]) (hl : l.length < 1000000000000) :
    Calls Tryd.prog 34 #[.slice A 1 cap] w fun e w' => e = .returned (.agg (brow 32 (leafD l))) ∧ Below w.heap.size w w' := by
  have z26 := zero26
  have hlt := glob_lt hG
  obtain ⟨b, o, rfl, hb, hcell⟩ := h (by simp)
  obtain ⟨A', c, e1, e2, e3⟩ := hcell 0 (by simp)
  simp only [List.getD_cons_zero, Nat.add_zero] at e1 e2 e3
  obtain ⟨D, hD⟩ : ∃ D, D = leafD l := ⟨_, rfl⟩
  rw [← hD]
  have C47 : Hid (∀ W : World, Below w.heap.size w W → Calls Tryd.prog 47 #[.slice A' l.length c] W fun e w' => e = .returned (.agg (brow 32 D)) ∧ Below W.heap.size W w') := by
    intro W hW; rw [hD]
    exact c_leaf A' l c B W (glob_below hG hW hlt) e2 (Nat.le_trans hB hW.size) (e3.below hW hB) hl
  have hce : ∀ W : World, Below w.heap.size w W → W.cell? ⟨b, o, none⟩ = some (.slice A' l.length c) := fun W hW => (cell_below hW b o (by omega)).trans e1
  have HCE := hid hce
  clear hD e1 hce hcell h
  go_enter Tryd.func34, Tryd.ntmps34
  go_upto_region 8 with fail
  refine name_world _ fun W0 hW0 => ?_
  have f0 : W0.heap[w.heap.size]? = some (.cells (brow 32 fun _ => 0#8) 26 (0, 0)) := by rw [hW0]; (with_reducible repeat (first | assumption | (refine p1 ?_; (first | omega | (simp <;> omega))) | (refine p2 ?_ ?_; focus (first | omega | (simp <;> omega))) | refine p3 ?_ | refine p4 ?_ | apply p5 | (refine p6 ?_ ?_; focus (first | omega | (simp <;> omega))) | apply p7 | (refine p8 ?_ ?_; focus (first | omega | (simp <;> omega))) | (refine p9 (by assumption) ?_ ?_; focus (first | omega | (simp <;> omega))) | (refine p10 (by assumption) ?_ ?_; focus (first | omega | (simp <;> omega)))))
  have hB0 : Below w.heap.size w W0 := by rw [hW0]; (with_reducible repeat (first | assumption | exact Below.refl _ _ | (refine b4 ?_ ?_; focus (first | omega | (simp <;> omega))) | refine b2 ?_ | refine Below.drew ?_ | (refine b5 ?_ ?_; focus (first | omega | (simp <;> omega))) | (refine b1 ?_ ?_; focus (first | omega | (simp <;> omega))) | (refine b3 (by assumption) ?_ ?_; focus (first | omega | (simp <;> omega))) | (refine b6 (by assumption) ?_ ?_; focus (first | omega | (simp <;> omega)))))
  have hzz := lt_of f0
  have hc0 := HCE.out W0 hB0
  have C := hid (C47.out W0 hB0)
  clear hW0
  go_wp2_with fail
  refine (C.out).mono ?_
  rintro e w1 ⟨rfl, hb1⟩
  have hz1 := hb1.size
  have u0 : w1.heap[w.heap.size]? = some (.cells (brow 32 fun _ => 0#8) 26 (0, 0)) := by (with_reducible repeat (first | assumption | (refine p1 ?_; (first | omega | (simp <;> omega))) | (refine p2 ?_ ?_; focus (first | omega | (simp <;> omega))) | refine p3 ?_ | refine p4 ?_ | apply p5 | (refine p6 ?_ ?_; focus (first | omega | (simp <;> omega))) | apply p7 | (refine p8 ?_ ?_; focus (first | omega | (simp <;> omega))) | (refine p9 (by assumption) ?_ ?_; focus (first | omega | (simp <;> omega))) | (refine p10 (by assumption) ?_ ?_; focus (first | omega | (simp <;> omega)))))
  have hB1 : Below w.heap.size w w1 := by (with_reducible repeat (first | assumption | exact Below.refl _ _ | (refine b4 ?_ ?_; focus (first | omega | (simp <;> omega))) | refine b2 ?_ | refine Below.drew ?_ | (refine b5 ?_ ?_; focus (first | omega | (simp <;> omega))) | (refine b1 ?_ ?_; focus (first | omega | (simp <;> omega))) | (refine b3 (by assumption) ?_ ?_; focus (first | omega | (simp <;> omega))) | (refine b6 (by assumption) ?_ ?_; focus (first | omega | (simp <;> omega)))))
  clear f0 hB0 hb1 hc0
  go_wp2_with (((with_reducible refine Arr.arm_store row26 rfl ?_); refine ⟨rfl, _, _, _, _, rfl, rfl, by (with_reducible repeat (first | assumption | (refine p1 ?_; (first | omega | (simp <;> omega))) | (refine p2 ?_ ?_; focus (first | omega | (simp <;> omega))) | refine p3 ?_ | refine p4 ?_ | apply p5 | (refine p6 ?_ ?_; focus (first | omega | (simp <;> omega))) | apply p7 | (refine p8 ?_ ?_; focus (first | omega | (simp <;> omega))) | (refine p9 (by assumption) ?_ ?_; focus (first | omega | (simp <;> omega))) | (refine p10 (by assumption) ?_ ?_; focus (first | omega | (simp <;> omega))))), by (exact brow_size _ _), by (exact brow_size _ _), by (exact brow_one _ _), ?_⟩))
  refine Arr.ret_row rfl row26 rfl ⟨_, _, _, _, rfl, by (with_reducible repeat (first | assumption | (refine p1 ?_; (first | omega | (simp <;> omega))) | (refine p2 ?_ ?_; focus (first | omega | (simp <;> omega))) | refine p3 ?_ | refine p4 ?_ | apply p5 | (refine p6 ?_ ?_; focus (first | omega | (simp <;> omega))) | apply p7 | (refine p8 ?_ ?_; focus (first | omega | (simp <;> omega))) | (refine p9 (by assumption) ?_ ?_; focus (first | omega | (simp <;> omega))) | (refine p10 (by assumption) ?_ ?_; focus (first | omega | (simp <;> omega))))), by (exact brow_size _ _), ?_⟩
  exact ⟨rfl, by (with_reducible repeat (first | assumption | exact Below.refl _ _ | (refine b4 ?_ ?_; focus (first | omega | (simp <;> omega))) | refine b2 ?_ | refine Below.drew ?_ | (refine b5 ?_ ?_; focus (first | omega | (simp <;> omega))) | (refine b1 ?_ ?_; focus (first | omega | (simp <;> omega))) | (refine b3 (by assumption) ?_ ?_; focus (first | omega | (simp <;> omega))) | (refine b6 (by assumption) ?_ ?_; focus (first | omega | (simp <;> omega)))))⟩
set_option maxHeartbeats 600000 in
theorem c_root : ∀ (n : Nat) (ps : List Bytes8) (A : Option Addr) (cap B : Nat) (w : World), ps.length = n → Glob w → n ≤ cap → n < 1000000 → B ≤ w.heap.size → PSl w B A ps → (∀ j, j < n → (ps.getD j []).length < 1000000000000) →
    Calls Tryd.prog 34 #[.slice A n cap] w fun e w' => e = .returned (.agg (brow 32 (rootL ps))) ∧ Below w.heap.size w w' := by
  have z26 := zero26
  intro n
  induction n using Nat.strongRecOn with
  | _ n ih =>
    intro ps A cap B w hn hG hc hn2 hB h hlen
    have hlt := glob_lt hG
    by_cases h0 : n = 0
    · subst h0
      obtain rfl : ps = [] := List.eq_nil_of_length_eq_zero hn
      rw [rootL_zero]
      exact c_root0 A cap w hG
    · by_cases h1 : n = 1
      · subst h1
        obtain ⟨l, rfl⟩ : ∃ l, ps = [l] := by
          match ps, hn with
          | [l], _ => exact ⟨l, rfl⟩
        rw [rootL_one]
        have hl := hlen 0 (by omega)
        exact c_root1 l A cap B w hG hB h hl
      · have hm := rootL_more ps (by omega)
        rw [hn] at hm
        have hhl := hf_lt n (by omega)
        have hhp := hf_pos n
        have C50 := fun W => c_half n (by omega) (by omega) W
        obtain ⟨K, hK⟩ : ∃ K, K = hf n := ⟨_, rfl⟩
        rw [← hK] at hhl hhp C50 hm
        have CH := hid C50
        clear C50 hK
        obtain ⟨X, hX⟩ : ∃ X, X = rootL (ps.take K) := ⟨_, rfl⟩
        obtain ⟨Y, hY⟩ : ∃ Y, Y = rootL (ps.drop K) := ⟨_, rfl⟩
        rw [hm, ← hX, ← hY]
        obtain ⟨b, o, rfl, hb, _⟩ := h (by omega)
        have CX : Hid (∀ W : World, Below w.heap.size w W → Calls Tryd.prog 34 #[.slice (some ⟨b, o, none⟩) K cap] W fun e w' => e = .returned (.agg (brow 32 X)) ∧ Below W.heap.size W w') := by
          intro W hW; rw [hX]
          refine ih K hhl (ps.take K) (some ⟨b, o, none⟩) cap B W (by rw [List.length_take]; omega) (glob_below hG hW hlt) (by omega) (by omega) (Nat.le_trans hB hW.size) (PSl.take (h.below hW hB) (by omega)) ?_
          intro j hj
          rw [List.getD_eq_getElem?_getD, List.getElem?_take, if_pos hj, ← List.getD_eq_getElem?_getD]; exact hlen j (by omega)
        have CY : Hid (∀ W : World, Below w.heap.size w W → Calls Tryd.prog 34 #[.slice (some ⟨b, o + K, none⟩) (n - K) (cap - K)] W fun e w' => e = .returned (.agg (brow 32 Y)) ∧ Below W.heap.size W w') := by
          intro W hW; rw [hY]
          refine ih (n - K) (by omega) (ps.drop K) (some ⟨b, o + K, none⟩) (cap - K) B W (by rw [List.length_drop]; omega) (glob_below hG hW hlt) (by omega) (by omega) (Nat.le_trans hB hW.size) (PSl.drop (h.below hW hB) (by omega)) ?_
          intro j hj
          rw [List.getD_eq_getElem?_getD, List.getElem?_drop, ← List.getD_eq_getElem?_getD]; exact hlen (K + j) (by omega)
        clear hX hY hm ih
        have hs1 := slice22h b o n cap K (by omega)
        have hs2 := slice22l b o n cap K (by omega) (by omega)
        have d0 : ((n : Int) == 0) = false := by rw [beq_eq_false_iff_ne]; omega
        have d1 : ((n : Int) == 1) = false := by rw [beq_eq_false_iff_ne]; omega
        go_enter Tryd.func34, Tryd.ntmps34
        go_upto_region 4 with (go_at_call 50; (with_reducible refine (CH.out _).mono ?_); rintro e w1 ⟨rfl, rfl⟩)
        refine name_world _ fun W0 hW0 => ?_
        have f0 : W0.heap[w.heap.size]? = some (.cells (brow 32 fun _ => 0#8) 26 (0, 0)) := by rw [hW0]; (with_reducible repeat (first | assumption | (refine p1 ?_; (first | omega | (simp <;> omega))) | (refine p2 ?_ ?_; focus (first | omega | (simp <;> omega))) | refine p3 ?_ | refine p4 ?_ | apply p5 | (refine p6 ?_ ?_; focus (first | omega | (simp <;> omega))) | apply p7 | (refine p8 ?_ ?_; focus (first | omega | (simp <;> omega))) | (refine p9 (by assumption) ?_ ?_; focus (first | omega | (simp <;> omega))) | (refine p10 (by assumption) ?_ ?_; focus (first | omega | (simp <;> omega)))))
        have hB0 : Below w.heap.size w W0 := by rw [hW0]; (with_reducible repeat (first | assumption | exact Below.refl _ _ | (refine b4 ?_ ?_; focus (first | omega | (simp <;> omega))) | refine b2 ?_ | refine Below.drew ?_ | (refine b5 ?_ ?_; focus (first | omega | (simp <;> omega))) | (refine b1 ?_ ?_; focus (first | omega | (simp <;> omega))) | (refine b3 (by assumption) ?_ ?_; focus (first | omega | (simp <;> omega))) | (refine b6 (by assumption) ?_ ?_; focus (first | omega | (simp <;> omega)))))
        have hzz := lt_of f0
        clear hW0
        refine Arr.held_begin (m := 10) (fun w' => Below w.heap.size w w') (by kernel_rfl) rfl ?_
        refine Arr.held_move 0 rfl rfl rfl (by kernel_rfl) (by kernel_rfl) (by kernel_rfl) (fun _ _ _ _ h => h) (by (with_reducible repeat (first | assumption | exact Below.refl _ _ | (refine b4 ?_ ?_; focus (first | omega | (simp <;> omega))) | refine b2 ?_ | refine Below.drew ?_ | (refine b5 ?_ ?_; focus (first | omega | (simp <;> omega))) | (refine b1 ?_ ?_; focus (first | omega | (simp <;> omega))) | (refine b3 (by assumption) ?_ ?_; focus (first | omega | (simp <;> omega))) | (refine b6 (by assumption) ?_ ?_; focus (first | omega | (simp <;> omega)))))) ?_
        refine Arr.held_move 1 rfl rfl rfl (by kernel_rfl) (by kernel_rfl) (by kernel_rfl) (fun _ _ _ _ h => h) (by (with_reducible repeat (first | assumption | exact Below.refl _ _ | (refine b4 ?_ ?_; focus (first | omega | (simp <;> omega))) | refine b2 ?_ | refine Below.drew ?_ | (refine b5 ?_ ?_; focus (first | omega | (simp <;> omega))) | (refine b1 ?_ ?_; focus (first | omega | (simp <;> omega))) | (refine b3 (by assumption) ?_ ?_; focus (first | omega | (simp <;> omega))) | (refine b6 (by assumption) ?_ ?_; focus (first | omega | (simp <;> omega)))))) ?_
        refine Arr.held_move 4 rfl rfl rfl (by kernel_rfl) (by kernel_rfl) (by kernel_rfl) (fun _ _ _ _ h => h) (by (with_reducible repeat (first | assumption | exact Below.refl _ _ | (refine b4 ?_ ?_; focus (first | omega | (simp <;> omega))) | refine b2 ?_ | refine Below.drew ?_ | (refine b5 ?_ ?_; focus (first | omega | (simp <;> omega))) | (refine b1 ?_ ?_; focus (first | omega | (simp <;> omega))) | (refine b3 (by assumption) ?_ ?_; focus (first | omega | (simp <;> omega))) | (refine b6 (by assumption) ?_ ?_; focus (first | omega | (simp <;> omega)))))) ?_
        refine Arr.held_move 5 rfl rfl rfl (by kernel_rfl) (by kernel_rfl) (by kernel_rfl) (fun _ _ _ _ h => h) (by (with_reducible repeat (first | assumption | exact Below.refl _ _ | (refine b4 ?_ ?_; focus (first | omega | (simp <;> omega))) | refine b2 ?_ | refine Below.drew ?_ | (refine b5 ?_ ?_; focus (first | omega | (simp <;> omega))) | (refine b1 ?_ ?_; focus (first | omega | (simp <;> omega))) | (refine b3 (by assumption) ?_ ?_; focus (first | omega | (simp <;> omega))) | (refine b6 (by assumption) ?_ ?_; focus (first | omega | (simp <;> omega)))))) ?_
        simp only [Act.put, Act.eval, List.setIfInBounds_toArray, List.set_cons_zero, List.set_cons_succ, Array.getD_eq_getD_getElem?, List.getElem?_toArray, List.getElem?_cons_zero, List.getElem?_cons_succ, Option.getD_some]
        (refine Arr.held_pure (v := ?_) 2 rfl rfl (by kernel_rfl) (by kernel_rfl) (by kernel_rfl) (fun _ _ _ _ h => h) (by (with_reducible repeat (first | assumption | exact Below.refl _ _ | (refine b4 ?_ ?_; focus (first | omega | (simp <;> omega))) | refine b2 ?_ | refine Below.drew ?_ | (refine b5 ?_ ?_; focus (first | omega | (simp <;> omega))) | (refine b1 ?_ ?_; focus (first | omega | (simp <;> omega))) | (refine b3 (by assumption) ?_ ?_; focus (first | omega | (simp <;> omega))) | (refine b6 (by assumption) ?_ ?_; focus (first | omega | (simp <;> omega)))))) ?_ ?_; rotate_left; (focus (intro w hSw; go_simp; (try with_reducible rfl))); simp only [Act.put, Act.eval, List.setIfInBounds_toArray, List.set_cons_zero, List.set_cons_succ, Array.getD_eq_getD_getElem?, List.getElem?_toArray, List.getElem?_cons_zero, List.getElem?_cons_succ, Option.getD_some])
        (refine Arr.held_pure (v := ?_) 6 rfl rfl (by kernel_rfl) (by kernel_rfl) (by kernel_rfl) (fun _ _ _ _ h => h) (by (with_reducible repeat (first | assumption | exact Below.refl _ _ | (refine b4 ?_ ?_; focus (first | omega | (simp <;> omega))) | refine b2 ?_ | refine Below.drew ?_ | (refine b5 ?_ ?_; focus (first | omega | (simp <;> omega))) | (refine b1 ?_ ?_; focus (first | omega | (simp <;> omega))) | (refine b3 (by assumption) ?_ ?_; focus (first | omega | (simp <;> omega))) | (refine b6 (by assumption) ?_ ?_; focus (first | omega | (simp <;> omega)))))) ?_ ?_; rotate_left; (focus (intro w hSw; go_simp; (try with_reducible rfl))); simp only [Act.put, Act.eval, List.setIfInBounds_toArray, List.set_cons_zero, List.set_cons_succ, Array.getD_eq_getD_getElem?, List.getElem?_toArray, List.getElem?_cons_zero, List.getElem?_cons_succ, Option.getD_some])
        (try simp only [Act.put, Act.eval, List.setIfInBounds_toArray, List.set_cons_zero, List.set_cons_succ, Array.getD_eq_getD_getElem?, List.getElem?_toArray, List.getElem?_cons_zero, List.getElem?_cons_succ, Option.getD_some])
        (refine Arr.held_step [3] (by kernel_rfl) (by simp) ?_; refine List.forall_mem_cons.2 ⟨⟨_, rfl, ?_⟩, fun _ h => absurd h List.not_mem_nil⟩; go_wp2_with ((go_at_call 34; (with_reducible refine (CX.out _ (by (with_reducible repeat (first | assumption | exact Below.refl _ _ | (refine b4 ?_ ?_; focus (first | omega | (simp <;> omega))) | refine b2 ?_ | refine Below.drew ?_ | (refine b5 ?_ ?_; focus (first | omega | (simp <;> omega))) | (refine b1 ?_ ?_; focus (first | omega | (simp <;> omega))) | (refine b3 (by assumption) ?_ ?_; focus (first | omega | (simp <;> omega))) | (refine b6 (by assumption) ?_ ?_; focus (first | omega | (simp <;> omega))))))).mono ?_); rintro e w5 ⟨rfl, hb5⟩; have hz5 : W0.heap.size ≤ w5.heap.size := hb5.size)); refine ⟨by (with_reducible repeat (first | assumption | exact Below.refl _ _ | (refine b4 ?_ ?_; focus (first | omega | (simp <;> omega))) | refine b2 ?_ | refine Below.drew ?_ | (refine b5 ?_ ?_; focus (first | omega | (simp <;> omega))) | (refine b1 ?_ ?_; focus (first | omega | (simp <;> omega))) | (refine b3 (by assumption) ?_ ?_; focus (first | omega | (simp <;> omega))) | (refine b6 (by assumption) ?_ ?_; focus (first | omega | (simp <;> omega))))), ?_⟩)
        (refine Arr.held_step [7] (by kernel_rfl) (by simp) ?_; refine List.forall_mem_cons.2 ⟨⟨_, rfl, ?_⟩, fun _ h => absurd h List.not_mem_nil⟩; go_wp2_with ((go_at_call 34; (with_reducible refine (CY.out _ (by (with_reducible repeat (first | assumption | exact Below.refl _ _ | (refine b4 ?_ ?_; focus (first | omega | (simp <;> omega))) | refine b2 ?_ | refine Below.drew ?_ | (refine b5 ?_ ?_; focus (first | omega | (simp <;> omega))) | (refine b1 ?_ ?_; focus (first | omega | (simp <;> omega))) | (refine b3 (by assumption) ?_ ?_; focus (first | omega | (simp <;> omega))) | (refine b6 (by assumption) ?_ ?_; focus (first | omega | (simp <;> omega))))))).mono ?_); rintro e w6 ⟨rfl, hb6⟩; have hz6 := hb6.size)); refine ⟨by (with_reducible repeat (first | assumption | exact Below.refl _ _ | (refine b4 ?_ ?_; focus (first | omega | (simp <;> omega))) | refine b2 ?_ | refine Below.drew ?_ | (refine b5 ?_ ?_; focus (first | omega | (simp <;> omega))) | (refine b1 ?_ ?_; focus (first | omega | (simp <;> omega))) | (refine b3 (by assumption) ?_ ?_; focus (first | omega | (simp <;> omega))) | (refine b6 (by assumption) ?_ ?_; focus (first | omega | (simp <;> omega))))), ?_⟩)
        (refine Arr.held_step [8] (by kernel_rfl) (by simp) ?_; refine List.forall_mem_cons.2 ⟨⟨_, rfl, ?_⟩, fun _ h => absurd h List.not_mem_nil⟩; go_wp2_with ((go_at_call 52; (with_reducible refine (c_node X Y _ (glob_below hG (B := w.heap.size) (by (with_reducible repeat (first | assumption | exact Below.refl _ _ | (refine b4 ?_ ?_; focus (first | omega | (simp <;> omega))) | refine b2 ?_ | refine Below.drew ?_ | (refine b5 ?_ ?_; focus (first | omega | (simp <;> omega))) | (refine b1 ?_ ?_; focus (first | omega | (simp <;> omega))) | (refine b3 (by assumption) ?_ ?_; focus (first | omega | (simp <;> omega))) | (refine b6 (by assumption) ?_ ?_; focus (first | omega | (simp <;> omega)))))) hlt)).mono ?_); rintro e w7 ⟨rfl, hb7⟩; have hz7 := hb7.size)); refine ⟨by (with_reducible repeat (first | assumption | exact Below.refl _ _ | (refine b4 ?_ ?_; focus (first | omega | (simp <;> omega))) | refine b2 ?_ | refine Below.drew ?_ | (refine b5 ?_ ?_; focus (first | omega | (simp <;> omega))) | (refine b1 ?_ ?_; focus (first | omega | (simp <;> omega))) | (refine b3 (by assumption) ?_ ?_; focus (first | omega | (simp <;> omega))) | (refine b6 (by assumption) ?_ ?_; focus (first | omega | (simp <;> omega))))), ?_⟩)
        (refine Arr.held_step [9] (by kernel_rfl) (by simp) ?_; refine List.forall_mem_cons.2 ⟨⟨_, rfl, ?_⟩, fun _ h => absurd h List.not_mem_nil⟩; go_wp2_with (((with_reducible refine Arr.arm_store row26 rfl ?_); refine ⟨rfl, _, _, _, _, rfl, rfl, by (with_reducible repeat (first | assumption | (refine p1 ?_; (first | omega | (simp <;> omega))) | (refine p2 ?_ ?_; focus (first | omega | (simp <;> omega))) | refine p3 ?_ | refine p4 ?_ | apply p5 | (refine p6 ?_ ?_; focus (first | omega | (simp <;> omega))) | apply p7 | (refine p8 ?_ ?_; focus (first | omega | (simp <;> omega))) | (refine p9 (by assumption) ?_ ?_; focus (first | omega | (simp <;> omega))) | (refine p10 (by assumption) ?_ ?_; focus (first | omega | (simp <;> omega))))), by (exact brow_size _ _), by (exact brow_size _ _), by (exact brow_one _ _), ?_⟩)); refine ⟨by (with_reducible repeat (first | assumption | exact Below.refl _ _ | (refine b4 ?_ ?_; focus (first | omega | (simp <;> omega))) | refine b2 ?_ | refine Below.drew ?_ | (refine b5 ?_ ?_; focus (first | omega | (simp <;> omega))) | (refine b1 ?_ ?_; focus (first | omega | (simp <;> omega))) | (refine b3 (by assumption) ?_ ?_; focus (first | omega | (simp <;> omega))) | (refine b6 (by assumption) ?_ ?_; focus (first | omega | (simp <;> omega))))), ?_⟩)
        refine wpAnyH_done (by kernel_rfl) ?_ _
        go_wp2
        refine Arr.ret_row rfl row26 rfl ⟨_, _, _, _, rfl, by (with_reducible repeat (first | assumption | (refine p1 ?_; (first | omega | (simp <;> omega))) | (refine p2 ?_ ?_; focus (first | omega | (simp <;> omega))) | refine p3 ?_ | refine p4 ?_ | apply p5 | (refine p6 ?_ ?_; focus (first | omega | (simp <;> omega))) | apply p7 | (refine p8 ?_ ?_; focus (first | omega | (simp <;> omega))) | (refine p9 (by assumption) ?_ ?_; focus (first | omega | (simp <;> omega))) | (refine p10 (by assumption) ?_ ?_; focus (first | omega | (simp <;> omega))))), by (exact brow_size _ _), ?_⟩
        exact ⟨rfl, by (with_reducible repeat (first | assumption | exact Below.refl _ _ | (refine b4 ?_ ?_; focus (first | omega | (simp <;> omega))) | refine b2 ?_ | refine Below.drew ?_ | (refine b5 ?_ ?_; focus (first | omega | (simp <;> omega))) | (refine b1 ?_ ?_; focus (first | omega | (simp <;> omega))) | (refine b3 (by assumption) ?_ ?_; focus (first | omega | (simp <;> omega))) | (refine b6 (by assumption) ?_ ?_; focus (first | omega | (simp <;> omega)))))⟩
end Go.Proofs.YtfkeaglbfembnaaDoor.Mk9
