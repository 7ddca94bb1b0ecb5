/- The law MerkleClash's walk. -/
import Derived.WalkKit
import Derived.StillTactics
import Derived.Outline
import Derived.Deep.DeepCutAuto
import Derived.Deep.CutBlock
import Derived.Deep.DeepMust
import Derived.Test.YtfkeaglbfembnaaDoorMk10
import Derived.Test.YtfkeaglbfembnaaDoorMk11
import Derived.Test.YtfkeaglbfembnaaDoorMk18
import Derived.Test.YtfkeaglbfembnaaDoorMk27
namespace Go.Proofs.YtfkeaglbfembnaaDoor.Mk28
open Go Go.RowKit Go.Proofs.YtfkeaglbfembnaaDoor.Arr Go.Proofs.YtfkeaglbfembnaaDoor.Mid Go.Proofs.YtfkeaglbfembnaaDoor.App Go.Proofs.YtfkeaglbfembnaaDoor.Sha1 Go.Proofs.YtfkeaglbfembnaaDoor.Sha2 Go.Proofs.YtfkeaglbfembnaaDoor.Sha4 Go.Proofs.YtfkeaglbfembnaaDoor.Sha5 Go.Proofs.YtfkeaglbfembnaaDoor.Sha6 Go.Proofs.YtfkeaglbfembnaaDoor.Sha7 Go.Proofs.YtfkeaglbfembnaaDoor.Sha8 Go.Proofs.YtfkeaglbfembnaaDoor.Sha9 Go.Proofs.YtfkeaglbfembnaaDoor.Sha10 Go.Proofs.YtfkeaglbfembnaaDoor.Sha12 Go.Proofs.YtfkeaglbfembnaaDoor.Sha13 Go.Proofs.YtfkeaglbfembnaaDoor.Sha17 Go.Proofs.YtfkeaglbfembnaaDoor.Mk1 Go.Proofs.YtfkeaglbfembnaaDoor.Mk2 Go.Proofs.YtfkeaglbfembnaaDoor.Mk3 Go.Proofs.YtfkeaglbfembnaaDoor.Mk4 Go.Proofs.YtfkeaglbfembnaaDoor.Mk8 Go.Proofs.YtfkeaglbfembnaaDoor.Mk9 Go.Proofs.YtfkeaglbfembnaaDoor.Mk10 Go.Proofs.YtfkeaglbfembnaaDoor.Mk11 Go.Proofs.YtfkeaglbfembnaaDoor.Mk18 Go.Proofs.YtfkeaglbfembnaaDoor.Mk25 Go.Proofs.YtfkeaglbfembnaaDoor.Mk26 Go.Proofs.YtfkeaglbfembnaaDoor.Mk27
set_option maxRecDepth 100000
set_option linter.unusedVariables false
set_option linter.unusedSimpArgs false
/-- The same texts? -/
theorem texts_eq (a b : List Bytes8) (hl : a.length = b.length) (h : ∀ j, j < a.length → a.getD j [] = b.getD j []) : a = b := by
  apply List.ext_getElem hl
  intro j h1 h2
  have := h j h1
  rw [List.getD_eq_getElem?_getD, List.getD_eq_getElem?_getD, List.getElem?_eq_getElem h1, List.getElem?_eq_getElem h2] at this
  exact this
set_option maxHeartbeats 1000000 in
theorem c_sameT (a b : List Bytes8) (A A' : Option Addr) (c c' B : Nat) (w : World) (hB : B ≤ w.heap.size) (h : PSl w B A a) (h' : PSl w B A' b) (hm : a.length < 1000000) (hla : ∀ j, j < a.length → (a.getD j []).length < 10000000000000) (hlb : ∀ j, j < b.length → (b.getD j []).length < 10000000000000) :
    Calls Tryd.prog 40 #[.slice A a.length c, .slice A' b.length c'] w fun e w' => e = .returned (.bool (decide (a = b))) ∧ Below w.heap.size w w' := by
  by_cases hlen : a.length = b.length
  · have t0 : ((a.length : Int) != (b.length : Int)) = false := by rw [bne_eq_false_iff_eq]; omega
    obtain ⟨n, hn⟩ : ∃ n, n = a.length := ⟨_, rfl⟩
    rw [← hlen, ← hn] at t0 ⊢
    have HN := hid hn
    have HLEN := hid hlen
    have HLA := hid hla
    have HLB := hid hlb
    rw [← hn] at hm
    clear hn hlen hla hlb
    go_enter Tryd.func40, Tryd.ntmps40
    go_wp2_with fail
    go_loopg [5] n (fun k z wr => ∃ i : Nat, i + k = n ∧ z = .int .i64 i ∧ Hid (∀ j, j < i → a.getD j [] = b.getD j []) ∧ Below w.heap.size w wr)
    case atStart => exact ⟨0, by omega, rfl, fun j hj => absurd hj (by omega), Below.refl _ _⟩
    case round =>
      obtain ⟨i, hi, rfl, HE, hB0⟩ := hrel
      have HI := hid hi
      have hile : i ≤ n := by omega
      have hz0 := hB0.size
      clear hi
      by_cases hin : i < n
      · obtain ⟨p, o, rfl, hp, hcell⟩ := h (by rw [← HN.out]; omega)
        obtain ⟨p', o', rfl, hp', hcell'⟩ := h' (by rw [← HLEN.out, ← HN.out]; omega)
        obtain ⟨A1, c1, e1, e2, e3⟩ := hcell i (by rw [← HN.out]; exact hin)
        obtain ⟨A2, c2, f1, f2, f3⟩ := hcell' i (by rw [← HLEN.out, ← HN.out]; exact hin)
        have hxl := HLA.out i (by rw [← HN.out]; exact hin)
        have hyl := HLB.out i (by rw [← HLEN.out, ← HN.out]; exact hin)
        obtain ⟨x, hx⟩ : ∃ x, x = a.getD i [] := ⟨_, rfl⟩
        obtain ⟨y, hy⟩ : ∃ y, y = b.getD i [] := ⟨_, rfl⟩
        rw [← hx] at e1 e2 e3 hxl
        rw [← hy] at f1 f2 f3 hyl
        have HX := hid hx
        have HY := hid hy
        have d4 : decide ((i : Int) < (n : Int)) = true := by rw [decide_eq_true_iff]; omega
        have d4n : decide (i < n) = true := by rw [decide_eq_true_iff]; omega
        have lE : (0 : Int) ≤ (i : Int) := by omega
        have lF : (i : Int) < (n : Int) := by omega
        have C25 : Hid (∀ W : World, Below w.heap.size w W → Calls Tryd.prog 25 #[.slice A1 x.length c1, .slice A2 y.length c2] W fun e w' => e = .returned (.bool (sameB x y)) ∧ Below W.heap.size W w') := by
          intro W hW
          exact c_same A1 A2 x y c1 c2 B W (e3.below hW hB) (f3.below hW hB) hxl hyl
        clear hx hy hcell hcell' h h' e3 f3
        have E1 := hid e1
        have F1 := hid f1
        clear e1 f1
        go_upto_region 6 with fail
        refine Arr.held_begin (m := 10) (fun w' => Below w.heap.size w w') (by kernel_rfl) rfl ?_
        refine Arr.held_move 0 rfl rfl rfl (by kernel_rfl) (by kernel_rfl) (by kernel_rfl) (fun _ _ _ _ h => h) (by (with_reducible repeat (first | assumption | exact Below.refl _ _ | (refine b4 ?_ ?_; focus (first | omega | (simp <;> omega))) | refine b2 ?_ | refine Below.drew ?_ | (refine b5 ?_ ?_; focus (first | omega | (simp <;> omega))) | (refine b1 ?_ ?_; focus (first | omega | (simp <;> omega))) | (refine b3 (by assumption) ?_ ?_; focus (first | omega | (simp <;> omega))) | (refine b6 (by assumption) ?_ ?_; focus (first | omega | (simp <;> omega)))))) ?_
        refine Arr.held_move 1 rfl rfl rfl (by kernel_rfl) (by kernel_rfl) (by kernel_rfl) (fun _ _ _ _ h => h) (by (with_reducible repeat (first | assumption | exact Below.refl _ _ | (refine b4 ?_ ?_; focus (first | omega | (simp <;> omega))) | refine b2 ?_ | refine Below.drew ?_ | (refine b5 ?_ ?_; focus (first | omega | (simp <;> omega))) | (refine b1 ?_ ?_; focus (first | omega | (simp <;> omega))) | (refine b3 (by assumption) ?_ ?_; focus (first | omega | (simp <;> omega))) | (refine b6 (by assumption) ?_ ?_; focus (first | omega | (simp <;> omega)))))) ?_
        refine Arr.held_move 4 rfl rfl rfl (by kernel_rfl) (by kernel_rfl) (by kernel_rfl) (fun _ _ _ _ h => h) (by (with_reducible repeat (first | assumption | exact Below.refl _ _ | (refine b4 ?_ ?_; focus (first | omega | (simp <;> omega))) | refine b2 ?_ | refine Below.drew ?_ | (refine b5 ?_ ?_; focus (first | omega | (simp <;> omega))) | (refine b1 ?_ ?_; focus (first | omega | (simp <;> omega))) | (refine b3 (by assumption) ?_ ?_; focus (first | omega | (simp <;> omega))) | (refine b6 (by assumption) ?_ ?_; focus (first | omega | (simp <;> omega)))))) ?_
        refine Arr.held_move 5 rfl rfl rfl (by kernel_rfl) (by kernel_rfl) (by kernel_rfl) (fun _ _ _ _ h => h) (by (with_reducible repeat (first | assumption | exact Below.refl _ _ | (refine b4 ?_ ?_; focus (first | omega | (simp <;> omega))) | refine b2 ?_ | refine Below.drew ?_ | (refine b5 ?_ ?_; focus (first | omega | (simp <;> omega))) | (refine b1 ?_ ?_; focus (first | omega | (simp <;> omega))) | (refine b3 (by assumption) ?_ ?_; focus (first | omega | (simp <;> omega))) | (refine b6 (by assumption) ?_ ?_; focus (first | omega | (simp <;> omega)))))) ?_
        simp only [Act.put, Act.eval, List.setIfInBounds_toArray, List.set_cons_zero, List.set_cons_succ, Array.getD_eq_getD_getElem?, List.getElem?_toArray, List.getElem?_cons_zero, List.getElem?_cons_succ, Option.getD_some]
        (refine Arr.held_pure (v := ?_) 2 rfl rfl (by kernel_rfl) (by kernel_rfl) (by kernel_rfl) (fun _ _ _ _ h => h) (by (with_reducible repeat (first | assumption | exact Below.refl _ _ | (refine b4 ?_ ?_; focus (first | omega | (simp <;> omega))) | refine b2 ?_ | refine Below.drew ?_ | (refine b5 ?_ ?_; focus (first | omega | (simp <;> omega))) | (refine b1 ?_ ?_; focus (first | omega | (simp <;> omega))) | (refine b3 (by assumption) ?_ ?_; focus (first | omega | (simp <;> omega))) | (refine b6 (by assumption) ?_ ?_; focus (first | omega | (simp <;> omega)))))) ?_ ?_; rotate_left; (focus (intro w hSw; go_simp; (try with_reducible rfl))); simp only [Act.put, Act.eval, List.setIfInBounds_toArray, List.set_cons_zero, List.set_cons_succ, Array.getD_eq_getD_getElem?, List.getElem?_toArray, List.getElem?_cons_zero, List.getElem?_cons_succ, Option.getD_some])
        (refine Arr.held_pure (v := ?_) 6 rfl rfl (by kernel_rfl) (by kernel_rfl) (by kernel_rfl) (fun _ _ _ _ h => h) (by (with_reducible repeat (first | assumption | exact Below.refl _ _ | (refine b4 ?_ ?_; focus (first | omega | (simp <;> omega))) | refine b2 ?_ | refine Below.drew ?_ | (refine b5 ?_ ?_; focus (first | omega | (simp <;> omega))) | (refine b1 ?_ ?_; focus (first | omega | (simp <;> omega))) | (refine b3 (by assumption) ?_ ?_; focus (first | omega | (simp <;> omega))) | (refine b6 (by assumption) ?_ ?_; focus (first | omega | (simp <;> omega)))))) ?_ ?_; rotate_left; (focus (intro w hSw; go_simp; (try with_reducible rfl))); simp only [Act.put, Act.eval, List.setIfInBounds_toArray, List.set_cons_zero, List.set_cons_succ, Array.getD_eq_getD_getElem?, List.getElem?_toArray, List.getElem?_cons_zero, List.getElem?_cons_succ, Option.getD_some])
        (try simp only [Act.put, Act.eval, List.setIfInBounds_toArray, List.set_cons_zero, List.set_cons_succ, Array.getD_eq_getD_getElem?, List.getElem?_toArray, List.getElem?_cons_zero, List.getElem?_cons_succ, Option.getD_some])
        refine held_load1 3 cell29 rfl rfl rfl (by kernel_rfl) (by kernel_rfl) (by kernel_rfl) (fun _ _ _ _ h => h) (by (with_reducible repeat (first | assumption | exact Below.refl _ _ | (refine b4 ?_ ?_; focus (first | omega | (simp <;> omega))) | refine b2 ?_ | refine Below.drew ?_ | (refine b5 ?_ ?_; focus (first | omega | (simp <;> omega))) | (refine b1 ?_ ?_; focus (first | omega | (simp <;> omega))) | (refine b3 (by assumption) ?_ ?_; focus (first | omega | (simp <;> omega))) | (refine b6 (by assumption) ?_ ?_; focus (first | omega | (simp <;> omega)))))) ⟨_, _, .slice A1 x.length c1, rfl, fun w h => (cell_below h _ _ (by omega)).trans E1.out, ?_⟩
        refine held_load1 7 cell29 rfl rfl rfl (by kernel_rfl) (by kernel_rfl) (by kernel_rfl) (fun _ _ _ _ h => h) (by (with_reducible repeat (first | assumption | exact Below.refl _ _ | (refine b4 ?_ ?_; focus (first | omega | (simp <;> omega))) | refine b2 ?_ | refine Below.drew ?_ | (refine b5 ?_ ?_; focus (first | omega | (simp <;> omega))) | (refine b1 ?_ ?_; focus (first | omega | (simp <;> omega))) | (refine b3 (by assumption) ?_ ?_; focus (first | omega | (simp <;> omega))) | (refine b6 (by assumption) ?_ ?_; focus (first | omega | (simp <;> omega)))))) ⟨_, _, .slice A2 y.length c2, rfl, fun w h => (cell_below h _ _ (by omega)).trans F1.out, ?_⟩
        (try simp only [Act.put, Act.eval, List.setIfInBounds_toArray, List.set_cons_zero, List.set_cons_succ, Array.getD_eq_getD_getElem?, List.getElem?_toArray, List.getElem?_cons_zero, List.getElem?_cons_succ, Option.getD_some])
        obtain ⟨R, hR⟩ : ∃ R, R = sameB x y := ⟨_, rfl⟩
        rw [← hR] at C25
        have HR := hid hR
        clear hR
        (refine Arr.held_step [8] (by kernel_rfl) (by simp) ?_; refine List.forall_mem_cons.2 ⟨⟨_, rfl, ?_⟩, fun _ h => absurd h List.not_mem_nil⟩; go_wp2_with ((go_at_call 25; (with_reducible refine (C25.out _ (by (with_reducible repeat (first | assumption | exact Below.refl _ _ | (refine b4 ?_ ?_; focus (first | omega | (simp <;> omega))) | refine b2 ?_ | refine Below.drew ?_ | (refine b5 ?_ ?_; focus (first | omega | (simp <;> omega))) | (refine b1 ?_ ?_; focus (first | omega | (simp <;> omega))) | (refine b3 (by assumption) ?_ ?_; focus (first | omega | (simp <;> omega))) | (refine b6 (by assumption) ?_ ?_; focus (first | omega | (simp <;> omega))))))).mono ?_); rintro e w5 ⟨rfl, hb5⟩; have hz5 := hb5.size; (try simp only [World.size_drew] at hz5))); refine ⟨by (with_reducible repeat (first | assumption | exact Below.refl _ _ | (refine b4 ?_ ?_; focus (first | omega | (simp <;> omega))) | refine b2 ?_ | refine Below.drew ?_ | (refine b5 ?_ ?_; focus (first | omega | (simp <;> omega))) | (refine b1 ?_ ?_; focus (first | omega | (simp <;> omega))) | (refine b3 (by assumption) ?_ ?_; focus (first | omega | (simp <;> omega))) | (refine b6 (by assumption) ?_ ?_; focus (first | omega | (simp <;> omega))))), ?_⟩)
        (refine Arr.held_step [9] (by kernel_rfl) (by simp) ?_; refine List.forall_mem_cons.2 ⟨⟨_, rfl, ?_⟩, fun _ h => absurd h List.not_mem_nil⟩; go_wp2_with (fail); refine ⟨by (with_reducible repeat (first | assumption | exact Below.refl _ _ | (refine b4 ?_ ?_; focus (first | omega | (simp <;> omega))) | refine b2 ?_ | refine Below.drew ?_ | (refine b5 ?_ ?_; focus (first | omega | (simp <;> omega))) | (refine b1 ?_ ?_; focus (first | omega | (simp <;> omega))) | (refine b3 (by assumption) ?_ ?_; focus (first | omega | (simp <;> omega))) | (refine b6 (by assumption) ?_ ?_; focus (first | omega | (simp <;> omega))))), ?_⟩)
        refine wpAnyH_done (by kernel_rfl) ?_ _
        have hB5 : Below w.heap.size w w5 := by (with_reducible repeat (first | assumption | exact Below.refl _ _ | (refine b4 ?_ ?_; focus (first | omega | (simp <;> omega))) | refine b2 ?_ | refine Below.drew ?_ | (refine b5 ?_ ?_; focus (first | omega | (simp <;> omega))) | (refine b1 ?_ ?_; focus (first | omega | (simp <;> omega))) | (refine b3 (by assumption) ?_ ?_; focus (first | omega | (simp <;> omega))) | (refine b6 (by assumption) ?_ ?_; focus (first | omega | (simp <;> omega)))))
        clear hb5
        cases R with
        | true =>
          go_wp2
          go_roundg (n - (i + 1))
          case measure => have := HI.out; omega
          case rel =>
            refine ⟨i + 1, by omega, by go_num, ?_, hB5⟩
            intro j hj
            by_cases e : j = i
            · subst e; rw [← HX.out, ← HY.out]; exact (sameB_iff _ _).1 HR.out.symm
            · exact HE.out j (by omega)
        | false =>
          go_wp2
          go_ret
          refine ⟨?_, hB5⟩
          have : ¬ a = b := by
            intro e
            have h1 := HR.out
            rw [HX.out, HY.out, e, sameB_refl] at h1
            cases h1
          rw [decide_eq_false this]; rfl
      · have e : i = n := by omega
        subst e
        go_wp2_with fail
        go_ret
        refine ⟨?_, hB0⟩
        have : a = b := texts_eq a b HLEN.out (by rw [← HN.out]; exact HE.out)
        rw [decide_eq_true this]; rfl
  · have t0 : ((a.length : Int) != (b.length : Int)) = true := by rw [bne_iff_ne]; omega
    have : ¬ a = b := fun e => hlen (by rw [e])
    rw [decide_eq_false this]
    clear this hla hlb h h'
    go_enter Tryd.func40, Tryd.ntmps40
    go_wp2_with fail
    go_ret
    exact ⟨rfl, by (with_reducible repeat (first | assumption | exact Below.refl _ _ | (refine b4 ?_ ?_; focus (first | omega | (simp <;> omega))) | refine b2 ?_ | refine Below.drew ?_ | (refine b5 ?_ ?_; focus (first | omega | (simp <;> omega))) | (refine b1 ?_ ?_; focus (first | omega | (simp <;> omega))) | (refine b3 (by assumption) ?_ ?_; focus (first | omega | (simp <;> omega))) | (refine b6 (by assumption) ?_ ?_; focus (first | omega | (simp <;> omega)))))⟩
set_option maxHeartbeats 2000000 in
theorem c_merkleClash (A A' : Option Addr) (a b : List Bytes8) (cap cap' : Nat) (w : World) (hG : Glob w) (hc : a.length ≤ cap) (hc' : b.length ≤ cap') (h : PSl w w.heap.size A a) (h' : PSl w w.heap.size A' b) (hl : a.length < 10000000000000) (hl' : b.length < 10000000000000)
    (hll : ∀ k, k < a.length → (a.getD k []).length < 1000000000000000) (hll' : ∀ k, k < b.length → (b.getD k []).length < 1000000000000000) :
    Calls Tryd.prog 13 #[.slice A a.length cap, .slice A' b.length cap'] w fun e w' => e = .returned (.bool true) ∧ Below w.heap.size w w' := by
  have hlt := glob_lt hG
  have ev := eql26
  have hug := unguarded26
  go_enter Tryd.func13, Tryd.ntmps13
  go_wp2_with ((go_at_call 28; (with_reducible refine (c_awake15 _ hG).mono ?_); rintro e w1 ⟨rfl, hb1⟩; have hz1 := hb1.size; (try simp only [World.size_alloc, World.size_setCell, World.size_drew, setRow_size, Arr.size_drewN] at hz1)))
  refine (c_few15 A a cap w.heap.size w1 (h.below hb1 (Nat.le_refl _)) hl hll).mono ?_
  rintro e w2 ⟨f1, rfl, hf1, rfl⟩
  cases f1
  · clear hll hll' hf1
    go_wp2_with ((go_at_call 28; (with_reducible refine (c_awake15 _ (glob_below hG hb1 hlt)).mono ?_); rintro e w3 ⟨rfl, hb3⟩))
    go_ret
    exact ⟨rfl, by (with_reducible repeat (first | assumption | exact Below.refl _ _ | (refine b4 ?_ ?_; focus (first | omega | (simp <;> omega))) | refine b2 ?_ | refine Below.drew ?_ | (refine b5 ?_ ?_; focus (first | omega | (simp <;> omega))) | (refine b1 ?_ ?_; focus (first | omega | (simp <;> omega))) | (refine b3 (by assumption) ?_ ?_; focus (first | omega | (simp <;> omega))) | (refine b6 (by assumption) ?_ ?_; focus (first | omega | (simp <;> omega)))))⟩
  · obtain ⟨hlen, htx⟩ := hf1 rfl
    clear hf1 hll
    go_wp2_with fail
    refine (c_few15 A' b cap' w.heap.size w1 (h'.below hb1 (Nat.le_refl _)) hl' hll').mono ?_
    rintro e w2 ⟨f2, rfl, hf2, rfl⟩
    cases f2
    · clear hll' hf2 htx
      go_wp2_with ((go_at_call 28; (with_reducible refine (c_awake15 _ (glob_below hG hb1 hlt)).mono ?_); rintro e w3 ⟨rfl, hb3⟩))
      go_ret
      exact ⟨rfl, by (with_reducible repeat (first | assumption | exact Below.refl _ _ | (refine b4 ?_ ?_; focus (first | omega | (simp <;> omega))) | refine b2 ?_ | refine Below.drew ?_ | (refine b5 ?_ ?_; focus (first | omega | (simp <;> omega))) | (refine b1 ?_ ?_; focus (first | omega | (simp <;> omega))) | (refine b3 (by assumption) ?_ ?_; focus (first | omega | (simp <;> omega))) | (refine b6 (by assumption) ?_ ?_; focus (first | omega | (simp <;> omega)))))⟩
    · obtain ⟨hlen', htx'⟩ := hf2 rfl
      clear hf2 hll'
      have HTX := hid htx
      have HTX' := hid htx'
      have C39 : Hid (∀ W : World, Below w.heap.size w W → Calls Tryd.prog 39 #[.slice A a.length cap, .slice A' b.length cap'] W (RetClash W (eq32 (rootL a) (rootL b) = true → a = b))) := by
        intro W hW
        exact c_mclash a.length a b b.length A A' cap cap' w.heap.size W rfl rfl (glob_below hG hW hlt) hc hc' (by omega) (by omega) hW.size (h.below hW (Nat.le_refl _)) (h'.below hW (Nat.le_refl _)) (fun j hj => Nat.le_trans (HTX.out j hj) (by omega)) (fun j hj => Nat.le_trans (HTX'.out j hj) (by omega))
      obtain ⟨X, hX⟩ : ∃ X, X = rootL a := ⟨_, rfl⟩
      obtain ⟨Y, hY⟩ : ∃ Y, Y = rootL b := ⟨_, rfl⟩
      have CX : Hid (∀ W : World, Below w.heap.size w W → Calls Tryd.prog 34 #[.slice A a.length cap] W fun e w' => e = .returned (.agg (brow 32 X)) ∧ Below W.heap.size W w') := by
        intro W hW; rw [hX]
        exact c_root a.length a A cap w.heap.size W rfl (glob_below hG hW hlt) hc (by omega) hW.size (h.below hW (Nat.le_refl _)) (fun j hj => Nat.lt_of_le_of_lt (HTX.out j hj) (by omega))
      have CY : Hid (∀ W : World, Below w.heap.size w W → Calls Tryd.prog 34 #[.slice A' b.length cap'] W fun e w' => e = .returned (.agg (brow 32 Y)) ∧ Below W.heap.size W w') := by
        intro W hW; rw [hY]
        exact c_root b.length b A' cap' w.heap.size W rfl (glob_below hG hW hlt) hc' (by omega) hW.size (h'.below hW (Nat.le_refl _)) (fun j hj => Nat.lt_of_le_of_lt (HTX'.out j hj) (by omega))
      obtain ⟨Z, hZ⟩ : ∃ Z, Z = decide (a = b) := ⟨_, rfl⟩
      have C40 : Hid (∀ W : World, Below w.heap.size w W → Calls Tryd.prog 40 #[.slice A a.length cap, .slice A' b.length cap'] W fun e w' => e = .returned (.bool Z) ∧ Below W.heap.size W w') := by
        intro W hW; rw [hZ]
        exact c_sameT a b A A' cap cap' w.heap.size W hW.size (h.below hW (Nat.le_refl _)) (h'.below hW (Nat.le_refl _)) (by omega) (fun j hj => Nat.lt_of_le_of_lt (HTX.out j hj) (by omega)) (fun j hj => Nat.lt_of_le_of_lt (HTX'.out j hj) (by omega))
      have HX := hid hX
      have HY := hid hY
      have HZ := hid hZ
      clear hX hY hZ htx htx'
      go_upto_region 4 with (go_at_call 39; (with_reducible refine (C39.out _ (by (with_reducible repeat (first | assumption | exact Below.refl _ _ | (refine b4 ?_ ?_; focus (first | omega | (simp <;> omega))) | refine b2 ?_ | refine Below.drew ?_ | (refine b5 ?_ ?_; focus (first | omega | (simp <;> omega))) | (refine b1 ?_ ?_; focus (first | omega | (simp <;> omega))) | (refine b3 (by assumption) ?_ ?_; focus (first | omega | (simp <;> omega))) | (refine b6 (by assumption) ?_ ?_; focus (first | omega | (simp <;> omega))))))).mono ?_); rintro e w3 hr; obtain ⟨v1, v2, ok, rfl, hb3, hok, hno⟩ := RetClash.one hr; clear hr; have hz3 := hb3.size)
      cases ok with
      | true =>
        obtain ⟨x, y, hO1, hO2, hne, hq, hl1, hl2⟩ := hok.out rfl
        obtain ⟨A1, c1, rfl, hc1, hs1, _⟩ := hO1.form
        obtain ⟨A2, c2, rfl, hc2, hs2, _⟩ := hO2.form
        obtain ⟨P, hP⟩ : ∃ P, P = shaL x := ⟨_, rfl⟩
        obtain ⟨Q, hQ⟩ : ∃ Q, Q = shaL y := ⟨_, rfl⟩
        rw [← hP, ← hQ] at hq
        have C25 : Hid (∀ W : World, Below w3.heap.size w3 W → Calls Tryd.prog 25 #[.slice A1 x.length c1, .slice A2 y.length c2] W fun e w' => e = .returned (.bool false) ∧ Below W.heap.size W w') := by
          intro W hW
          have c := c_same A1 A2 x y c1 c2 w3.heap.size W (hs1.below hW (Nat.le_refl _)) (hs2.below hW (Nat.le_refl _)) (by omega) (by omega)
          rw [sameB_false x y hne] at c
          exact c
        have C17x : Hid (∀ W : World, Below w3.heap.size w3 W → Calls Tryd.prog 17 #[.slice A1 x.length c1] W fun e w' => e = .returned (.agg (brow 32 P)) ∧ Below W.heap.size W w') := by
          intro W hW; rw [hP]
          exact c_refSum A1 x c1 w3.heap.size W hW.size (hs1.below hW (Nat.le_refl _)) (by omega)
        have C17y : Hid (∀ W : World, Below w3.heap.size w3 W → Calls Tryd.prog 17 #[.slice A2 y.length c2] W fun e w' => e = .returned (.agg (brow 32 Q)) ∧ Below W.heap.size W w') := by
          intro W hW; rw [hQ]
          exact c_refSum A2 y c2 w3.heap.size W hW.size (hs2.below hW (Nat.le_refl _)) (by omega)
        have hB3 : Below w.heap.size w w3 := by (with_reducible repeat (first | assumption | exact Below.refl _ _ | (refine b4 ?_ ?_; focus (first | omega | (simp <;> omega))) | refine b2 ?_ | refine Below.drew ?_ | (refine b5 ?_ ?_; focus (first | omega | (simp <;> omega))) | (refine b1 ?_ ?_; focus (first | omega | (simp <;> omega))) | (refine b3 (by assumption) ?_ ?_; focus (first | omega | (simp <;> omega))) | (refine b6 (by assumption) ?_ ?_; focus (first | omega | (simp <;> omega)))))
        have hz33 := hB3.size
        clear hP hQ hne hok hno hO1 hO2 hs1 hs2 hb1 hb3 hz1 hz3
        go_wp2_with (first | (go_at_call 25; (with_reducible refine (C25.out _ (by (with_reducible repeat (first | assumption | exact Below.refl _ _ | (refine b4 ?_ ?_; focus (first | omega | (simp <;> omega))) | refine b2 ?_ | refine Below.drew ?_ | (refine b5 ?_ ?_; focus (first | omega | (simp <;> omega))) | (refine b1 ?_ ?_; focus (first | omega | (simp <;> omega))) | (refine b3 (by assumption) ?_ ?_; focus (first | omega | (simp <;> omega))) | (refine b6 (by assumption) ?_ ?_; focus (first | omega | (simp <;> omega))))))).mono ?_); rintro e w4 ⟨rfl, hb4⟩; have hz4 := hb4.size) | (go_at_call 17; (with_reducible refine (C17x.out _ (by (with_reducible repeat (first | assumption | exact Below.refl _ _ | (refine b4 ?_ ?_; focus (first | omega | (simp <;> omega))) | refine b2 ?_ | refine Below.drew ?_ | (refine b5 ?_ ?_; focus (first | omega | (simp <;> omega))) | (refine b1 ?_ ?_; focus (first | omega | (simp <;> omega))) | (refine b3 (by assumption) ?_ ?_; focus (first | omega | (simp <;> omega))) | (refine b6 (by assumption) ?_ ?_; focus (first | omega | (simp <;> omega))))))).mono ?_); rintro e w5 ⟨rfl, hb5⟩; have hz5 := hb5.size) | (go_at_call 17; (with_reducible refine (C17y.out _ (by (with_reducible repeat (first | assumption | exact Below.refl _ _ | (refine b4 ?_ ?_; focus (first | omega | (simp <;> omega))) | refine b2 ?_ | refine Below.drew ?_ | (refine b5 ?_ ?_; focus (first | omega | (simp <;> omega))) | (refine b1 ?_ ?_; focus (first | omega | (simp <;> omega))) | (refine b3 (by assumption) ?_ ?_; focus (first | omega | (simp <;> omega))) | (refine b6 (by assumption) ?_ ?_; focus (first | omega | (simp <;> omega))))))).mono ?_); rintro e w6 ⟨rfl, hb6⟩; have hz6 := hb6.size))
        go_ret
        exact ⟨rfl, by (with_reducible repeat (first | assumption | exact Below.refl _ _ | (refine b4 ?_ ?_; focus (first | omega | (simp <;> omega))) | refine b2 ?_ | refine Below.drew ?_ | (refine b5 ?_ ?_; focus (first | omega | (simp <;> omega))) | (refine b1 ?_ ?_; focus (first | omega | (simp <;> omega))) | (refine b3 (by assumption) ?_ ?_; focus (first | omega | (simp <;> omega))) | (refine b6 (by assumption) ?_ ?_; focus (first | omega | (simp <;> omega)))))⟩
      | false =>
        obtain ⟨rfl, rfl, hE⟩ := hno.out rfl
        have hB3 : Below w.heap.size w w3 := by (with_reducible repeat (first | assumption | exact Below.refl _ _ | (refine b4 ?_ ?_; focus (first | omega | (simp <;> omega))) | refine b2 ?_ | refine Below.drew ?_ | (refine b5 ?_ ?_; focus (first | omega | (simp <;> omega))) | (refine b1 ?_ ?_; focus (first | omega | (simp <;> omega))) | (refine b3 (by assumption) ?_ ?_; focus (first | omega | (simp <;> omega))) | (refine b6 (by assumption) ?_ ?_; focus (first | omega | (simp <;> omega)))))
        have hz33 := hB3.size
        have hXY : eq32 X Y = Z := by
          rw [HZ.out]
          cases e : eq32 X Y
          · have : ¬ a = b := fun h => by rw [HX.out, HY.out, h, eq32_refl] at e; cases e
            rw [decide_eq_false this]
          · rw [HX.out, HY.out] at e
            rw [decide_eq_true (hE e)]
        clear hE hok hno hb3 hb1 hz1 hz3
        go_upto_region 8 with fail
        refine Arr.held_begin (m := 10) (fun w' => Below w.heap.size w w') (by kernel_rfl) rfl ?_
        refine Arr.held_move 0 rfl rfl rfl (by kernel_rfl) (by kernel_rfl) (by kernel_rfl) (fun _ _ _ _ h => h) (by (with_reducible repeat (first | assumption | exact Below.refl _ _ | (refine b4 ?_ ?_; focus (first | omega | (simp <;> omega))) | refine b2 ?_ | refine Below.drew ?_ | (refine b5 ?_ ?_; focus (first | omega | (simp <;> omega))) | (refine b1 ?_ ?_; focus (first | omega | (simp <;> omega))) | (refine b3 (by assumption) ?_ ?_; focus (first | omega | (simp <;> omega))) | (refine b6 (by assumption) ?_ ?_; focus (first | omega | (simp <;> omega)))))) ?_
        refine Arr.held_move 2 rfl rfl rfl (by kernel_rfl) (by kernel_rfl) (by kernel_rfl) (fun _ _ _ _ h => h) (by (with_reducible repeat (first | assumption | exact Below.refl _ _ | (refine b4 ?_ ?_; focus (first | omega | (simp <;> omega))) | refine b2 ?_ | refine Below.drew ?_ | (refine b5 ?_ ?_; focus (first | omega | (simp <;> omega))) | (refine b1 ?_ ?_; focus (first | omega | (simp <;> omega))) | (refine b3 (by assumption) ?_ ?_; focus (first | omega | (simp <;> omega))) | (refine b6 (by assumption) ?_ ?_; focus (first | omega | (simp <;> omega)))))) ?_
        refine Arr.held_move 5 rfl rfl rfl (by kernel_rfl) (by kernel_rfl) (by kernel_rfl) (fun _ _ _ _ h => h) (by (with_reducible repeat (first | assumption | exact Below.refl _ _ | (refine b4 ?_ ?_; focus (first | omega | (simp <;> omega))) | refine b2 ?_ | refine Below.drew ?_ | (refine b5 ?_ ?_; focus (first | omega | (simp <;> omega))) | (refine b1 ?_ ?_; focus (first | omega | (simp <;> omega))) | (refine b3 (by assumption) ?_ ?_; focus (first | omega | (simp <;> omega))) | (refine b6 (by assumption) ?_ ?_; focus (first | omega | (simp <;> omega)))))) ?_
        refine Arr.held_move 6 rfl rfl rfl (by kernel_rfl) (by kernel_rfl) (by kernel_rfl) (fun _ _ _ _ h => h) (by (with_reducible repeat (first | assumption | exact Below.refl _ _ | (refine b4 ?_ ?_; focus (first | omega | (simp <;> omega))) | refine b2 ?_ | refine Below.drew ?_ | (refine b5 ?_ ?_; focus (first | omega | (simp <;> omega))) | (refine b1 ?_ ?_; focus (first | omega | (simp <;> omega))) | (refine b3 (by assumption) ?_ ?_; focus (first | omega | (simp <;> omega))) | (refine b6 (by assumption) ?_ ?_; focus (first | omega | (simp <;> omega)))))) ?_
        simp only [Act.put, Act.eval, List.setIfInBounds_toArray, List.set_cons_zero, List.set_cons_succ, Array.getD_eq_getD_getElem?, List.getElem?_toArray, List.getElem?_cons_zero, List.getElem?_cons_succ, Option.getD_some]
        (refine Arr.held_step [1] (by kernel_rfl) (by simp) ?_; refine List.forall_mem_cons.2 ⟨⟨_, rfl, ?_⟩, fun _ h => absurd h List.not_mem_nil⟩; go_wp2_with ((go_at_call 34; (with_reducible refine (CX.out _ (by (with_reducible repeat (first | assumption | exact Below.refl _ _ | (refine b4 ?_ ?_; focus (first | omega | (simp <;> omega))) | refine b2 ?_ | refine Below.drew ?_ | (refine b5 ?_ ?_; focus (first | omega | (simp <;> omega))) | (refine b1 ?_ ?_; focus (first | omega | (simp <;> omega))) | (refine b3 (by assumption) ?_ ?_; focus (first | omega | (simp <;> omega))) | (refine b6 (by assumption) ?_ ?_; focus (first | omega | (simp <;> omega))))))).mono ?_); rintro e w4 ⟨rfl, hb4⟩; have hz4 := hb4.size; (try simp only [World.size_drew] at hz4))); refine ⟨by (with_reducible repeat (first | assumption | exact Below.refl _ _ | (refine b4 ?_ ?_; focus (first | omega | (simp <;> omega))) | refine b2 ?_ | refine Below.drew ?_ | (refine b5 ?_ ?_; focus (first | omega | (simp <;> omega))) | (refine b1 ?_ ?_; focus (first | omega | (simp <;> omega))) | (refine b3 (by assumption) ?_ ?_; focus (first | omega | (simp <;> omega))) | (refine b6 (by assumption) ?_ ?_; focus (first | omega | (simp <;> omega))))), ?_⟩)
        (refine Arr.held_step [3] (by kernel_rfl) (by simp) ?_; refine List.forall_mem_cons.2 ⟨⟨_, rfl, ?_⟩, fun _ h => absurd h List.not_mem_nil⟩; go_wp2_with ((go_at_call 34; (with_reducible refine (CY.out _ (by (with_reducible repeat (first | assumption | exact Below.refl _ _ | (refine b4 ?_ ?_; focus (first | omega | (simp <;> omega))) | refine b2 ?_ | refine Below.drew ?_ | (refine b5 ?_ ?_; focus (first | omega | (simp <;> omega))) | (refine b1 ?_ ?_; focus (first | omega | (simp <;> omega))) | (refine b3 (by assumption) ?_ ?_; focus (first | omega | (simp <;> omega))) | (refine b6 (by assumption) ?_ ?_; focus (first | omega | (simp <;> omega))))))).mono ?_); rintro e w5 ⟨rfl, hb5⟩; have hz5 := hb5.size)); refine ⟨by (with_reducible repeat (first | assumption | exact Below.refl _ _ | (refine b4 ?_ ?_; focus (first | omega | (simp <;> omega))) | refine b2 ?_ | refine Below.drew ?_ | (refine b5 ?_ ?_; focus (first | omega | (simp <;> omega))) | (refine b1 ?_ ?_; focus (first | omega | (simp <;> omega))) | (refine b3 (by assumption) ?_ ?_; focus (first | omega | (simp <;> omega))) | (refine b6 (by assumption) ?_ ?_; focus (first | omega | (simp <;> omega))))), ?_⟩)
        (refine Arr.held_pure (v := ?_) 4 rfl rfl (by kernel_rfl) (by kernel_rfl) (by kernel_rfl) (fun _ _ _ _ h => h) (by (with_reducible repeat (first | assumption | exact Below.refl _ _ | (refine b4 ?_ ?_; focus (first | omega | (simp <;> omega))) | refine b2 ?_ | refine Below.drew ?_ | (refine b5 ?_ ?_; focus (first | omega | (simp <;> omega))) | (refine b1 ?_ ?_; focus (first | omega | (simp <;> omega))) | (refine b3 (by assumption) ?_ ?_; focus (first | omega | (simp <;> omega))) | (refine b6 (by assumption) ?_ ?_; focus (first | omega | (simp <;> omega)))))) ?_ ?_; rotate_left; (focus (intro w hSw; go_simp; (try with_reducible rfl))); simp only [Act.put, Act.eval, List.setIfInBounds_toArray, List.set_cons_zero, List.set_cons_succ, Array.getD_eq_getD_getElem?, List.getElem?_toArray, List.getElem?_cons_zero, List.getElem?_cons_succ, Option.getD_some])
        (try simp only [Act.put, Act.eval, List.setIfInBounds_toArray, List.set_cons_zero, List.set_cons_succ, Array.getD_eq_getD_getElem?, List.getElem?_toArray, List.getElem?_cons_zero, List.getElem?_cons_succ, Option.getD_some])
        (refine Arr.held_step [7] (by kernel_rfl) (by simp) ?_; refine List.forall_mem_cons.2 ⟨⟨_, rfl, ?_⟩, fun _ h => absurd h List.not_mem_nil⟩; go_wp2_with ((go_at_call 40; (with_reducible refine (C40.out _ (by (with_reducible repeat (first | assumption | exact Below.refl _ _ | (refine b4 ?_ ?_; focus (first | omega | (simp <;> omega))) | refine b2 ?_ | refine Below.drew ?_ | (refine b5 ?_ ?_; focus (first | omega | (simp <;> omega))) | (refine b1 ?_ ?_; focus (first | omega | (simp <;> omega))) | (refine b3 (by assumption) ?_ ?_; focus (first | omega | (simp <;> omega))) | (refine b6 (by assumption) ?_ ?_; focus (first | omega | (simp <;> omega))))))).mono ?_); rintro e w6 ⟨rfl, hb6⟩; have hz6 := hb6.size)); refine ⟨by (with_reducible repeat (first | assumption | exact Below.refl _ _ | (refine b4 ?_ ?_; focus (first | omega | (simp <;> omega))) | refine b2 ?_ | refine Below.drew ?_ | (refine b5 ?_ ?_; focus (first | omega | (simp <;> omega))) | (refine b1 ?_ ?_; focus (first | omega | (simp <;> omega))) | (refine b3 (by assumption) ?_ ?_; focus (first | omega | (simp <;> omega))) | (refine b6 (by assumption) ?_ ?_; focus (first | omega | (simp <;> omega))))), ?_⟩)
        (refine Arr.held_step [8] (by kernel_rfl) (by simp) ?_; refine List.forall_mem_cons.2 ⟨⟨_, rfl, ?_⟩, fun _ h => absurd h List.not_mem_nil⟩; go_wp2_with (fail); refine ⟨by (with_reducible repeat (first | assumption | exact Below.refl _ _ | (refine b4 ?_ ?_; focus (first | omega | (simp <;> omega))) | refine b2 ?_ | refine Below.drew ?_ | (refine b5 ?_ ?_; focus (first | omega | (simp <;> omega))) | (refine b1 ?_ ?_; focus (first | omega | (simp <;> omega))) | (refine b3 (by assumption) ?_ ?_; focus (first | omega | (simp <;> omega))) | (refine b6 (by assumption) ?_ ?_; focus (first | omega | (simp <;> omega))))), ?_⟩)
        (refine Arr.held_step [9] (by kernel_rfl) (by simp) ?_; refine List.forall_mem_cons.2 ⟨⟨_, rfl, ?_⟩, fun _ h => absurd h List.not_mem_nil⟩; go_wp2_with (fail); refine ⟨by (with_reducible repeat (first | assumption | exact Below.refl _ _ | (refine b4 ?_ ?_; focus (first | omega | (simp <;> omega))) | refine b2 ?_ | refine Below.drew ?_ | (refine b5 ?_ ?_; focus (first | omega | (simp <;> omega))) | (refine b1 ?_ ?_; focus (first | omega | (simp <;> omega))) | (refine b3 (by assumption) ?_ ?_; focus (first | omega | (simp <;> omega))) | (refine b6 (by assumption) ?_ ?_; focus (first | omega | (simp <;> omega))))), ?_⟩)
        refine wpAnyH_done (by kernel_rfl) ?_ _
        have hBz : Below w.heap.size w w6 := by (with_reducible repeat (first | assumption | exact Below.refl _ _ | (refine b4 ?_ ?_; focus (first | omega | (simp <;> omega))) | refine b2 ?_ | refine Below.drew ?_ | (refine b5 ?_ ?_; focus (first | omega | (simp <;> omega))) | (refine b1 ?_ ?_; focus (first | omega | (simp <;> omega))) | (refine b3 (by assumption) ?_ ?_; focus (first | omega | (simp <;> omega))) | (refine b6 (by assumption) ?_ ?_; focus (first | omega | (simp <;> omega)))))
        go_wp2
        go_ret
        exact ⟨by simp, hBz⟩
theorem w_merkleClash (W : World) (hG : Glob W) (A : Option Addr) (a : List Bytes8) (cap : Nat) (hc : a.length ≤ cap) (h : PSl W W.heap.size A a) (hl : a.length < 10000000000000) (hll : ∀ k, k < a.length → (a.getD k []).length < 1000000000000000) (A' : Option Addr) (b : List Bytes8) (cap' : Nat) (hc' : b.length ≤ cap') (h' : PSl W W.heap.size A' b) (hl' : b.length < 10000000000000) (hll' : ∀ k, k < b.length → (b.getD k []).length < 1000000000000000) :
    Calls Tryd.prog 13 #[.slice A a.length cap, .slice A' b.length cap'] W fun e w' => e = .returned (.bool true) ∧ Below W.heap.size W w' := c_merkleClash A A' a b cap cap' W hG hc hc' h h' hl hl' hll hll'
end Go.Proofs.YtfkeaglbfembnaaDoor.Mk28
