/- The reference's hash of one short block. -/
import Derived.WalkKit
import Derived.StillTactics
import Derived.Outline
import Derived.Deep.DeepCutAuto
import Derived.Deep.CutBlock
import Derived.Test.YtfkeaglbfembnaaDoorRoot6
namespace Go.Proofs.YtfkeaglbfembnaaDoor.Root7
open Go Go.RowKit Go.Proofs.YtfkeaglbfembnaaDoor.Arr Go.Proofs.YtfkeaglbfembnaaDoor.Mid Go.Proofs.YtfkeaglbfembnaaDoor.App Go.Proofs.YtfkeaglbfembnaaDoor.Sha1 Go.Proofs.YtfkeaglbfembnaaDoor.Sha2 Go.Proofs.YtfkeaglbfembnaaDoor.Sha3 Go.Proofs.YtfkeaglbfembnaaDoor.Sha4 Go.Proofs.YtfkeaglbfembnaaDoor.Sha5 Go.Proofs.YtfkeaglbfembnaaDoor.Sha6 Go.Proofs.YtfkeaglbfembnaaDoor.Sha7 Go.Proofs.YtfkeaglbfembnaaDoor.Sha8 Go.Proofs.YtfkeaglbfembnaaDoor.Sha9 Go.Proofs.YtfkeaglbfembnaaDoor.Sha10
set_option maxRecDepth 100000
set_option linter.unusedVariables false
set_option linter.unusedSimpArgs false
theorem one_len (n : Nat) (h : n ≤ 55) : plen n = 64 := by unfold plen; omega
theorem one_zero (M : Nat → B8) (n p : Nat) (h : n ≤ 55) (h1 : n < p) (h2 : p < 62) : pad M n p = 0#8 := by
  have hp := one_len n h
  rcases Nat.lt_or_ge p 56 with h3 | h3
  · exact pad_zero M n p h1 (by omega)
  · obtain ⟨i, rfl⟩ : ∃ i, p = 56 + i := ⟨p - 56, by omega⟩
    have e := pad_len M n i
    rw [hp, show 64 - 8 + i = 56 + i by omega] at e
    rw [e]
    unfold lenb
    rw [Nat.div_eq_of_lt]
    calc n * 8 < 2 ^ 16 := by omega
      _ ≤ 2 ^ (56 - 8 * i) := Nat.pow_le_pow_right (by decide) (by omega)
theorem one_last (M : Nat → B8) (n i : Nat) (h : n ≤ 55) : pad M n (56 + i) = lenb n i := by
  have e := pad_len M n i
  rw [one_len n h, show 64 - 8 + i = 56 + i by omega] at e
  exact e
theorem one_sha (l : Bytes8) (h : l.length ≤ 55) : dig (blockf K0 H0 (fun i => pad (lf l) l.length i)) = shaL l := by
  unfold shaL sha
  rw [one_len _ h]
  show _ = dig (stm _ 1)
  unfold stm
  simp only [Nat.mul_zero, Nat.zero_add]
  rfl
set_option maxHeartbeats 8000000 in
theorem c_one (A : Option Addr) (l : Bytes8) (cap B : Nat) (w : World) (hB : B ≤ w.heap.size) (h : BSl w B A l) (hl : l.length ≤ 55) :
    Calls Tryd.prog 23 #[.agg (words 8 H0), .agg (words 64 K0), .slice A l.length cap] w fun e w' => e = .returned (.agg (brow 32 (shaL l))) ∧ Below w.heap.size w w' := by
  have z26 := zero26
  go_enter Tryd.func23, Tryd.ntmps23
  go_wp2_with (first | ((at_builtin; refine arm_appB elem5 rfl (base := w.heap.size + 3) (Own.nil _ _) (h.below (C := w.heap.size) (by (with_reducible repeat (first | assumption | exact Below.refl _ _ | (refine b4 ?_ ?_; focus (first | omega | (simp <;> omega))) | refine b2 ?_ | refine Below.drew ?_ | (refine b5 ?_ ?_; focus (first | omega | (simp <;> omega))) | (refine b1 ?_ ?_; focus (first | omega | (simp <;> omega))) | (refine b3 (by assumption) ?_ ?_; focus (first | omega | (simp <;> omega))) | (refine b6 (by assumption) ?_ ?_; focus (first | omega | (simp <;> omega)))))) hB) (by simp; omega) (by simp) ?_); refine ⟨rfl, rfl, _, rfl, ?_⟩; intro v2 w2 hO2 hb2) | ((at_builtin; refine arm_appB elem5 rfl (base := w.heap.size + 3) (m := [128#8]) (Own.alloc hO2 _) (bsl_one (v := 128#8) (heap_alloc_new _ _) rfl) (by simp; omega) (by simp; have := hb2.size; simp at this; omega) ?_); refine ⟨rfl, rfl, _, rfl, ?_⟩; intro v3 w3 hO3 hb3))
  have hz2 := hb2.size
  have hz3 := hb3.size
  simp only [World.size_alloc] at hz2 hz3
  have q3 : w3.heap[w.heap.size + 1 + 1]? = some (.cells (brow 32 fun _ => 0#8) 26 (0, 0)) := by (with_reducible repeat (first | assumption | (refine p1 ?_; (first | omega | (simp <;> omega))) | (refine p2 ?_ ?_; focus (first | omega | (simp <;> omega))) | refine p3 ?_ | refine p4 ?_ | apply p5 | (refine p6 ?_ ?_; focus (first | omega | (simp <;> omega))) | apply p7 | (refine p8 ?_ ?_; focus (first | omega | (simp <;> omega))) | (refine p9 (by assumption) ?_ ?_; focus (first | omega | (simp <;> omega))) | (refine p10 (by assumption) ?_ ?_; focus (first | omega | (simp <;> omega)))))
  have r1 : w3.heap[w.heap.size]? = some (.cells (words 8 H0) 34 (0, 0)) := by (with_reducible repeat (first | assumption | (refine p1 ?_; (first | omega | (simp <;> omega))) | (refine p2 ?_ ?_; focus (first | omega | (simp <;> omega))) | refine p3 ?_ | refine p4 ?_ | apply p5 | (refine p6 ?_ ?_; focus (first | omega | (simp <;> omega))) | apply p7 | (refine p8 ?_ ?_; focus (first | omega | (simp <;> omega))) | (refine p9 (by assumption) ?_ ?_; focus (first | omega | (simp <;> omega))) | (refine p10 (by assumption) ?_ ?_; focus (first | omega | (simp <;> omega)))))
  have r2 : w3.heap[w.heap.size + 1]? = some (.cells (words 64 K0) 41 (0, 0)) := by (with_reducible repeat (first | assumption | (refine p1 ?_; (first | omega | (simp <;> omega))) | (refine p2 ?_ ?_; focus (first | omega | (simp <;> omega))) | refine p3 ?_ | refine p4 ?_ | apply p5 | (refine p6 ?_ ?_; focus (first | omega | (simp <;> omega))) | apply p7 | (refine p8 ?_ ?_; focus (first | omega | (simp <;> omega))) | (refine p9 (by assumption) ?_ ?_; focus (first | omega | (simp <;> omega))) | (refine p10 (by assumption) ?_ ?_; focus (first | omega | (simp <;> omega)))))
  have hBW : Below w.heap.size w w3 := by (with_reducible repeat (first | assumption | exact Below.refl _ _ | (refine b4 ?_ ?_; focus (first | omega | (simp <;> omega))) | refine b2 ?_ | refine Below.drew ?_ | (refine b5 ?_ ?_; focus (first | omega | (simp <;> omega))) | (refine b1 ?_ ?_; focus (first | omega | (simp <;> omega))) | (refine b3 (by assumption) ?_ ?_; focus (first | omega | (simp <;> omega))) | (refine b6 (by assumption) ?_ ?_; focus (first | omega | (simp <;> omega)))))
  have hO : Own w3 (w.heap.size + 3) v3 (padP l (l.length + 1)) := by
    rw [padP_succ, padP_all, pad_at]; exact hO3
  clear hb2 hb3 hO2 hO3 hz2 hz3 h
  obtain ⟨n, hn⟩ : ∃ n, n = l.length := ⟨_, rfl⟩
  rw [← hn] at hO hl ⊢
  have HNL := hid hn
  clear hn
  go_loopg [7] (62 - (n + 1)) (fun k v wr => ∃ p, n + 1 ≤ p ∧ p + k = 62 ∧ Own wr (w.heap.size + 3) v (padP l p) ∧ wr.heap[w.heap.size + 1 + 1]? = some (.cells (brow 32 fun _ => 0#8) 26 (0, 0)) ∧ wr.heap[w.heap.size]? = some (.cells (words 8 H0) 34 (0, 0)) ∧ wr.heap[w.heap.size + 1]? = some (.cells (words 64 K0) 41 (0, 0)) ∧ Below w.heap.size w wr)
  case atStart => exact ⟨n + 1, by omega, by omega, hO, q3, r1, r2, hBW⟩
  case round =>
    clear hO q3 r1 r2 hBW
    obtain ⟨p, hp1, hp2, hO, q3, r1, r2, hBW⟩ := hrel
    have HP2 := hid hp2
    have hp3 : p ≤ 62 := by omega
    have hw3 := lt_of q3
    clear hp2
    obtain ⟨A2, c2, rfl, hc2, hsr, hA2⟩ := hO.form
    rw [padP_len] at hO hc2 hA2 ⊢
    by_cases hpN : p < 62
    · have l1 : (p : Int) < 62 := by omega
      go_wp2_with ((at_builtin; refine arm_appB elem5 rfl (base := w.heap.size + 3) (m := [0#8]) (Own.alloc hO _) (bsl_one (v := 0#8) (heap_alloc_new _ _) rfl) (by rw [padP_len]; simp; omega) (by simp; omega) ?_); refine ⟨rfl, rfl, _, rfl, ?_⟩; intro v2 w2 hO2 hb2)
      have hz2 := hb2.size
      simp only [World.size_alloc] at hz2
      go_roundg (62 - (p + 1))
      case measure => have := HP2.out; omega
      case rel =>
        refine ⟨p + 1, by omega, by omega, ?_, by (with_reducible repeat (first | assumption | (refine p1 ?_; (first | omega | (simp <;> omega))) | (refine p2 ?_ ?_; focus (first | omega | (simp <;> omega))) | refine p3 ?_ | refine p4 ?_ | apply p5 | (refine p6 ?_ ?_; focus (first | omega | (simp <;> omega))) | apply p7 | (refine p8 ?_ ?_; focus (first | omega | (simp <;> omega))) | (refine p9 (by assumption) ?_ ?_; focus (first | omega | (simp <;> omega))) | (refine p10 (by assumption) ?_ ?_; focus (first | omega | (simp <;> omega))))), by (with_reducible repeat (first | assumption | (refine p1 ?_; (first | omega | (simp <;> omega))) | (refine p2 ?_ ?_; focus (first | omega | (simp <;> omega))) | refine p3 ?_ | refine p4 ?_ | apply p5 | (refine p6 ?_ ?_; focus (first | omega | (simp <;> omega))) | apply p7 | (refine p8 ?_ ?_; focus (first | omega | (simp <;> omega))) | (refine p9 (by assumption) ?_ ?_; focus (first | omega | (simp <;> omega))) | (refine p10 (by assumption) ?_ ?_; focus (first | omega | (simp <;> omega))))), by (with_reducible repeat (first | assumption | (refine p1 ?_; (first | omega | (simp <;> omega))) | (refine p2 ?_ ?_; focus (first | omega | (simp <;> omega))) | refine p3 ?_ | refine p4 ?_ | apply p5 | (refine p6 ?_ ?_; focus (first | omega | (simp <;> omega))) | apply p7 | (refine p8 ?_ ?_; focus (first | omega | (simp <;> omega))) | (refine p9 (by assumption) ?_ ?_; focus (first | omega | (simp <;> omega))) | (refine p10 (by assumption) ?_ ?_; focus (first | omega | (simp <;> omega))))), by (with_reducible repeat (first | assumption | exact Below.refl _ _ | (refine b4 ?_ ?_; focus (first | omega | (simp <;> omega))) | refine b2 ?_ | refine Below.drew ?_ | (refine b5 ?_ ?_; focus (first | omega | (simp <;> omega))) | (refine b1 ?_ ?_; focus (first | omega | (simp <;> omega))) | (refine b3 (by assumption) ?_ ?_; focus (first | omega | (simp <;> omega))) | (refine b6 (by assumption) ?_ ?_; focus (first | omega | (simp <;> omega)))))⟩
        rw [padP_succ, ← HNL.out, one_zero _ _ _ hl (by omega) hpN]; exact hO2
    · have hp : p = 62 := by omega
      subst hp
      have l2 : IntKind.i64.wrap ((n : Int) * 8) = (n : Int) * 8 := wrap64 _ (by omega) (by omega)
      have v6 := lenb_val n 6
      have v7 := lenb_val n 7
      unfold by8 at v6 v7
      injection v6 with _ v6
      injection v7 with _ v7
      have e6 : (n : Int) * 8 / 256 = ((lenb n 6).toNat : Int) := by
        rw [← v6]; show _ = (n : Int) * 8 / 256 % 256; omega
      have e7 : (n : Int) * 8 % 256 = ((lenb n 7).toNat : Int) := by
        rw [← v7]; show _ = (n : Int) * 8 / 1 % 256; omega
      have E6 := hid e6
      have E7 := hid e7
      clear v6 v7 e6 e7
      go_upto_region 8 with (first | ((at_builtin; refine arm_appB elem5 rfl (base := w.heap.size + 3) (m := [lenb n 6]) (Own.alloc hO _) (bsl_one (v := lenb n 6) (heap_alloc_new _ _) E6.out) (by rw [padP_len]; simp) (by simp; omega) ?_); refine ⟨rfl, rfl, _, rfl, ?_⟩; intro v4 w4 hO4 hb4) | ((at_builtin; refine arm_appB elem5 rfl (base := w.heap.size + 3) (m := [lenb n 7]) (Own.alloc hO4 _) (bsl_one (v := lenb n 7) (heap_alloc_new _ _) E7.out) (by simp [padP_len]) (by simp; have := hb4.size; simp at this; omega) ?_); refine ⟨rfl, rfl, _, rfl, ?_⟩; intro v5 w5 hO5 hb5; obtain ⟨A5, c5, rfl, hc5, hs5, hA5⟩ := hO5.form; obtain ⟨g, rfl, hg⟩ := hA5 (by simp); rw [show (padP l 62 ++ [lenb n 6] ++ [lenb n 7]).length = 64 by simp [padP_len]]))
      have hz4 := hb4.size
      have hz5 := hb5.size
      simp only [World.size_alloc] at hz4 hz5
      have R3 : w5.heap[w.heap.size + 1 + 1]? = some (.cells (brow 32 fun _ => 0#8) 26 (0, 0)) := by (with_reducible repeat (first | assumption | (refine p1 ?_; (first | omega | (simp <;> omega))) | (refine p2 ?_ ?_; focus (first | omega | (simp <;> omega))) | refine p3 ?_ | refine p4 ?_ | apply p5 | (refine p6 ?_ ?_; focus (first | omega | (simp <;> omega))) | apply p7 | (refine p8 ?_ ?_; focus (first | omega | (simp <;> omega))) | (refine p9 (by assumption) ?_ ?_; focus (first | omega | (simp <;> omega))) | (refine p10 (by assumption) ?_ ?_; focus (first | omega | (simp <;> omega)))))
      have R1 : w5.heap[w.heap.size]? = some (.cells (words 8 H0) 34 (0, 0)) := by (with_reducible repeat (first | assumption | (refine p1 ?_; (first | omega | (simp <;> omega))) | (refine p2 ?_ ?_; focus (first | omega | (simp <;> omega))) | refine p3 ?_ | refine p4 ?_ | apply p5 | (refine p6 ?_ ?_; focus (first | omega | (simp <;> omega))) | apply p7 | (refine p8 ?_ ?_; focus (first | omega | (simp <;> omega))) | (refine p9 (by assumption) ?_ ?_; focus (first | omega | (simp <;> omega))) | (refine p10 (by assumption) ?_ ?_; focus (first | omega | (simp <;> omega)))))
      have R2 : w5.heap[w.heap.size + 1]? = some (.cells (words 64 K0) 41 (0, 0)) := by (with_reducible repeat (first | assumption | (refine p1 ?_; (first | omega | (simp <;> omega))) | (refine p2 ?_ ?_; focus (first | omega | (simp <;> omega))) | refine p3 ?_ | refine p4 ?_ | apply p5 | (refine p6 ?_ ?_; focus (first | omega | (simp <;> omega))) | apply p7 | (refine p8 ?_ ?_; focus (first | omega | (simp <;> omega))) | (refine p9 (by assumption) ?_ ?_; focus (first | omega | (simp <;> omega))) | (refine p10 (by assumption) ?_ ?_; focus (first | omega | (simp <;> omega)))))
      have RB : Below w.heap.size w w5 := by (with_reducible repeat (first | assumption | exact Below.refl _ _ | (refine b4 ?_ ?_; focus (first | omega | (simp <;> omega))) | refine b2 ?_ | refine Below.drew ?_ | (refine b5 ?_ ?_; focus (first | omega | (simp <;> omega))) | (refine b1 ?_ ?_; focus (first | omega | (simp <;> omega))) | (refine b3 (by assumption) ?_ ?_; focus (first | omega | (simp <;> omega))) | (refine b6 (by assumption) ?_ ?_; focus (first | omega | (simp <;> omega)))))
      have ep : padP l 62 ++ [lenb n 6] ++ [lenb n 7] = padP l 64 := by
        rw [padP_succ l 63, padP_succ l 62, ← HNL.out, ← one_last (lf l) n 6 hl, ← one_last (lf l) n 7 hl]
      rw [ep] at hs5
      obtain ⟨b4, o4, e4, hgl, hc4⟩ := hs5 (by rw [padP_len]; omega)
      have e5 := Option.some.inj e4
      have e6 : g = b4 := congrArg Addr.block e5
      have e7 : 0 = o4 := congrArg Addr.off e5
      subst e6; subst e7
      have hby : Bytes w5 g 0 64 (fun i => pad (lf l) n i) := by
        intro i hi
        have := hc4 i (by rw [padP_len]; omega)
        rw [padP_at _ _ _ (by omega), ← HNL.out] at this
        exact this
      have c42 := ref_block H0 K0 g 0 c5 (fun i => pad (lf l) n i) w5 hgl hby
      obtain ⟨HF, hHF⟩ : ∃ HF, HF = blockf K0 H0 (fun i => pad (lf l) n i) := ⟨_, rfl⟩
      rw [← hHF] at c42
      have HHF := hid hHF
      have C42 := hid c42
      clear hO hsr hA2 hO4 hO5 hs5 hA5 ep hc4 e4 e5 hby c42 hHF r1 r2 q3 hBW E6 E7
      go_wp2_with (first | ((with_reducible refine Arr.arm_load row34 rfl ?_); refine ⟨rfl, _, _, _, _, rfl, by (with_reducible repeat (first | assumption | (refine p1 ?_; (first | omega | (simp <;> omega))) | (refine p2 ?_ ?_; focus (first | omega | (simp <;> omega))) | refine p3 ?_ | refine p4 ?_ | apply p5 | (refine p6 ?_ ?_; focus (first | omega | (simp <;> omega))) | apply p7 | (refine p8 ?_ ?_; focus (first | omega | (simp <;> omega))) | (refine p9 (by assumption) ?_ ?_; focus (first | omega | (simp <;> omega))) | (refine p10 (by assumption) ?_ ?_; focus (first | omega | (simp <;> omega))))), by (exact words_size _ _), ?_⟩; skip) | ((with_reducible refine Arr.arm_load row41 rfl ?_); refine ⟨rfl, _, _, _, _, rfl, by (with_reducible repeat (first | assumption | (refine p1 ?_; (first | omega | (simp <;> omega))) | (refine p2 ?_ ?_; focus (first | omega | (simp <;> omega))) | refine p3 ?_ | refine p4 ?_ | apply p5 | (refine p6 ?_ ?_; focus (first | omega | (simp <;> omega))) | apply p7 | (refine p8 ?_ ?_; focus (first | omega | (simp <;> omega))) | (refine p9 (by assumption) ?_ ?_; focus (first | omega | (simp <;> omega))) | (refine p10 (by assumption) ?_ ?_; focus (first | omega | (simp <;> omega))))), by (exact words_size _ _), ?_⟩; skip) | ((go_at_call 42; (with_reducible refine (C42.out).mono ?_)); rintro e w6 ⟨rfl, hb6⟩; have hz6 := hb6.size) | ((with_reducible refine Arr.arm_store row34 rfl ?_); refine ⟨rfl, _, _, _, _, rfl, rfl, by (with_reducible repeat (first | assumption | (refine p1 ?_; (first | omega | (simp <;> omega))) | (refine p2 ?_ ?_; focus (first | omega | (simp <;> omega))) | refine p3 ?_ | refine p4 ?_ | apply p5 | (refine p6 ?_ ?_; focus (first | omega | (simp <;> omega))) | apply p7 | (refine p8 ?_ ?_; focus (first | omega | (simp <;> omega))) | (refine p9 (by assumption) ?_ ?_; focus (first | omega | (simp <;> omega))) | (refine p10 (by assumption) ?_ ?_; focus (first | omega | (simp <;> omega))))), by (exact words_size _ _), by (exact words_size _ _), by (exact words_one _ _), ?_⟩))
      refine name_world _ fun W0 hW0 => ?_
      have S1 : W0.heap[w.heap.size]? = some (.cells (words 8 HF) 34 (0, 0)) := by rw [hW0]; (with_reducible repeat (first | assumption | (refine p1 ?_; (first | omega | (simp <;> omega))) | (refine p2 ?_ ?_; focus (first | omega | (simp <;> omega))) | refine p3 ?_ | refine p4 ?_ | apply p5 | (refine p6 ?_ ?_; focus (first | omega | (simp <;> omega))) | apply p7 | (refine p8 ?_ ?_; focus (first | omega | (simp <;> omega))) | (refine p9 (by assumption) ?_ ?_; focus (first | omega | (simp <;> omega))) | (refine p10 (by assumption) ?_ ?_; focus (first | omega | (simp <;> omega)))))
      have S3 : W0.heap[w.heap.size + 1 + 1]? = some (.cells (brow 32 fun _ => 0#8) 26 (0, 0)) := by rw [hW0]; (with_reducible repeat (first | assumption | (refine p1 ?_; (first | omega | (simp <;> omega))) | (refine p2 ?_ ?_; focus (first | omega | (simp <;> omega))) | refine p3 ?_ | refine p4 ?_ | apply p5 | (refine p6 ?_ ?_; focus (first | omega | (simp <;> omega))) | apply p7 | (refine p8 ?_ ?_; focus (first | omega | (simp <;> omega))) | (refine p9 (by assumption) ?_ ?_; focus (first | omega | (simp <;> omega))) | (refine p10 (by assumption) ?_ ?_; focus (first | omega | (simp <;> omega)))))
      have SB : Below w.heap.size w W0 := by rw [hW0]; (with_reducible repeat (first | assumption | exact Below.refl _ _ | (refine b4 ?_ ?_; focus (first | omega | (simp <;> omega))) | refine b2 ?_ | refine Below.drew ?_ | (refine b5 ?_ ?_; focus (first | omega | (simp <;> omega))) | (refine b1 ?_ ?_; focus (first | omega | (simp <;> omega))) | (refine b3 (by assumption) ?_ ?_; focus (first | omega | (simp <;> omega))) | (refine b6 (by assumption) ?_ ?_; focus (first | omega | (simp <;> omega)))))
      have S4 : W0.heap[w6.heap.size]? = some (.cells (brow 32 (uptoB (dig HF) 0)) 26 (0, 0)) := by rw [hW0, uptoB_zero]; (with_reducible repeat (first | assumption | (refine p1 ?_; (first | omega | (simp <;> omega))) | (refine p2 ?_ ?_; focus (first | omega | (simp <;> omega))) | refine p3 ?_ | refine p4 ?_ | apply p5 | (refine p6 ?_ ?_; focus (first | omega | (simp <;> omega))) | apply p7 | (refine p8 ?_ ?_; focus (first | omega | (simp <;> omega))) | (refine p9 (by assumption) ?_ ?_; focus (first | omega | (simp <;> omega))) | (refine p10 (by assumption) ?_ ?_; focus (first | omega | (simp <;> omega)))))
      obtain ⟨d, hd⟩ : ∃ d, d = w6.heap.size := ⟨_, rfl⟩
      rw [← hd] at S4 ⊢
      have hd2 : w.heap.size + 2 < d := by omega
      clear hW0 hd hb6 hz6 C42 hb4 hb5 R1 R2 R3 RB hz4 hz5 hgl hw3
      go_loopg [9] 32 (fun k i wr => ∃ t : Nat, t + k = 32 ∧ i = .int .i64 t ∧ wr.heap[d]? = some (.cells (brow 32 (uptoB (dig HF) t)) 26 (0, 0)) ∧ wr.heap[w.heap.size]? = some (.cells (words 8 HF) 34 (0, 0)) ∧ wr.heap[w.heap.size + 1 + 1]? = some (.cells (brow 32 fun _ => 0#8) 26 (0, 0)) ∧ Below w.heap.size w wr)
      case atStart => exact ⟨0, by omega, rfl, S4, S1, S3, SB⟩
      case round =>
        clear S4 S1 S3 SB
        obtain ⟨t, ht, rfl, S4, S1, S3, SB⟩ := hrel
        have HT := hid ht
        have ht8 : t ≤ 32 := by omega
        clear ht
        by_cases h8 : t < 32
        · obtain ⟨a, ha⟩ : ∃ a, a = t / 4 := ⟨_, rfl⟩
          obtain ⟨b, hb⟩ : ∃ b, b = t % 4 := ⟨_, rfl⟩
          have a8 : a < 8 := by omega
          have b4 : b < 4 := by omega
          have e0 : (t : Int) / 4 = (a : Int) := by omega
          have e1 : (t : Int) % 4 = (b : Int) := by omega
          have HA := hid ha
          have HBB := hid hb
          clear ha hb
          have a8' : (a : Int) < 8 := by omega
          have e2 : IntKind.i64.wrap (8 * (b : Int)) = 8 * (b : Int) := wrap64 _ (by omega) (by omega)
          have e3 : IntKind.i64.wrap (24 - 8 * (b : Int)) = 24 - 8 * (b : Int) := wrap64 _ (by omega) (by omega)
          have e4 : (0 : Int) ≤ 24 - 8 * (b : Int) := by omega
          have e5 : 24 - 8 * (b : Int) < 32 := by omega
          have e6 : (24 - 8 * (b : Int)).toNat = 24 - 8 * b := by omega
          have ca := cell_of S1 (words_get 8 HF a a8)
          unfold wd at ca
          go_wp2_with (first | ((with_reducible refine Arr.arm_store1 Sha7.cell5 rfl ?_); refine ⟨rfl, _, _, _, _, _, rfl, rfl, by (with_reducible repeat (first | assumption | (refine p1 ?_; (first | omega | (simp <;> omega))) | (refine p2 ?_ ?_; focus (first | omega | (simp <;> omega))) | refine p3 ?_ | refine p4 ?_ | apply p5 | (refine p6 ?_ ?_; focus (first | omega | (simp <;> omega))) | apply p7 | (refine p8 ?_ ?_; focus (first | omega | (simp <;> omega))) | (refine p9 (by assumption) ?_ ?_; focus (first | omega | (simp <;> omega))) | (refine p10 (by assumption) ?_ ?_; focus (first | omega | (simp <;> omega))))), by (rw [brow_size]; omega), rfl, ?_⟩; (try simp only [Act.put, Act.eval, List.setIfInBounds_toArray, List.set_cons_zero, List.set_cons_succ, Array.getD_eq_getD_getElem?, List.getElem?_toArray, List.getElem?_cons_zero, List.getElem?_cons_succ, Option.getD_some])))
          go_roundg (32 - (t + 1))
          case measure => have := HT.out; omega
          case rel =>
            refine ⟨t + 1, by omega, by go_num, ?_, by (with_reducible repeat (first | assumption | (refine p1 ?_; (first | omega | (simp <;> omega))) | (refine p2 ?_ ?_; focus (first | omega | (simp <;> omega))) | refine p3 ?_ | refine p4 ?_ | apply p5 | (refine p6 ?_ ?_; focus (first | omega | (simp <;> omega))) | apply p7 | (refine p8 ?_ ?_; focus (first | omega | (simp <;> omega))) | (refine p9 (by assumption) ?_ ?_; focus (first | omega | (simp <;> omega))) | (refine p10 (by assumption) ?_ ?_; focus (first | omega | (simp <;> omega))))), by (with_reducible repeat (first | assumption | (refine p1 ?_; (first | omega | (simp <;> omega))) | (refine p2 ?_ ?_; focus (first | omega | (simp <;> omega))) | refine p3 ?_ | refine p4 ?_ | apply p5 | (refine p6 ?_ ?_; focus (first | omega | (simp <;> omega))) | apply p7 | (refine p8 ?_ ?_; focus (first | omega | (simp <;> omega))) | (refine p9 (by assumption) ?_ ?_; focus (first | omega | (simp <;> omega))) | (refine p10 (by assumption) ?_ ?_; focus (first | omega | (simp <;> omega))))), by (with_reducible repeat (first | assumption | exact Below.refl _ _ | (refine b4 ?_ ?_; focus (first | omega | (simp <;> omega))) | refine b2 ?_ | refine Below.drew ?_ | (refine b5 ?_ ?_; focus (first | omega | (simp <;> omega))) | (refine b1 ?_ ?_; focus (first | omega | (simp <;> omega))) | (refine b3 (by assumption) ?_ ?_; focus (first | omega | (simp <;> omega))) | (refine b6 (by assumption) ?_ ?_; focus (first | omega | (simp <;> omega)))))⟩
            rw [← uptoB_set (dig HF) 32 t _ rfl, ← dig_at HF t a b HA.out HBB.out]
            (with_reducible repeat (first | assumption | (refine p1 ?_; (first | omega | (simp <;> omega))) | (refine p2 ?_ ?_; focus (first | omega | (simp <;> omega))) | refine p3 ?_ | refine p4 ?_ | apply p5 | (refine p6 ?_ ?_; focus (first | omega | (simp <;> omega))) | apply p7 | (refine p8 ?_ ?_; focus (first | omega | (simp <;> omega))) | (refine p9 (by assumption) ?_ ?_; focus (first | omega | (simp <;> omega))) | (refine p10 (by assumption) ?_ ?_; focus (first | omega | (simp <;> omega)))))
        · have e : t = 32 := by omega
          subst e
          rw [uptoB_all] at S4
          go_wp2_with (first | ((with_reducible refine Arr.arm_load row26 rfl ?_); refine ⟨rfl, _, _, _, _, rfl, by (with_reducible repeat (first | assumption | (refine p1 ?_; (first | omega | (simp <;> omega))) | (refine p2 ?_ ?_; focus (first | omega | (simp <;> omega))) | refine p3 ?_ | refine p4 ?_ | apply p5 | (refine p6 ?_ ?_; focus (first | omega | (simp <;> omega))) | apply p7 | (refine p8 ?_ ?_; focus (first | omega | (simp <;> omega))) | (refine p9 (by assumption) ?_ ?_; focus (first | omega | (simp <;> omega))) | (refine p10 (by assumption) ?_ ?_; focus (first | omega | (simp <;> omega))))), by (exact brow_size _ _), ?_⟩; skip) | ((with_reducible refine Arr.arm_store row26 rfl ?_); refine ⟨rfl, _, _, _, _, rfl, rfl, by (with_reducible repeat (first | assumption | (refine p1 ?_; (first | omega | (simp <;> omega))) | (refine p2 ?_ ?_; focus (first | omega | (simp <;> omega))) | refine p3 ?_ | refine p4 ?_ | apply p5 | (refine p6 ?_ ?_; focus (first | omega | (simp <;> omega))) | apply p7 | (refine p8 ?_ ?_; focus (first | omega | (simp <;> omega))) | (refine p9 (by assumption) ?_ ?_; focus (first | omega | (simp <;> omega))) | (refine p10 (by assumption) ?_ ?_; focus (first | omega | (simp <;> omega))))), by (exact brow_size _ _), by (exact brow_size _ _), by (exact brow_one _ _), ?_⟩))
          refine Arr.ret_row rfl row26 rfl ⟨_, _, _, _, rfl, by (with_reducible repeat (first | assumption | (refine p1 ?_; (first | omega | (simp <;> omega))) | (refine p2 ?_ ?_; focus (first | omega | (simp <;> omega))) | refine p3 ?_ | refine p4 ?_ | apply p5 | (refine p6 ?_ ?_; focus (first | omega | (simp <;> omega))) | apply p7 | (refine p8 ?_ ?_; focus (first | omega | (simp <;> omega))) | (refine p9 (by assumption) ?_ ?_; focus (first | omega | (simp <;> omega))) | (refine p10 (by assumption) ?_ ?_; focus (first | omega | (simp <;> omega))))), by (exact brow_size _ _), ?_⟩
          exact ⟨by rw [HHF.out, HNL.out, one_sha l (by rw [← HNL.out]; exact hl)], by (with_reducible repeat (first | assumption | exact Below.refl _ _ | (refine b4 ?_ ?_; focus (first | omega | (simp <;> omega))) | refine b2 ?_ | refine Below.drew ?_ | (refine b5 ?_ ?_; focus (first | omega | (simp <;> omega))) | (refine b1 ?_ ?_; focus (first | omega | (simp <;> omega))) | (refine b3 (by assumption) ?_ ?_; focus (first | omega | (simp <;> omega))) | (refine b6 (by assumption) ?_ ?_; focus (first | omega | (simp <;> omega)))))⟩
end Go.Proofs.YtfkeaglbfembnaaDoor.Root7
