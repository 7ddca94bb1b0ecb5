/- SHA-256: the program's block takes a block into a hash: the words become the block's function of them; nothing else that was there is changed. -/
import Derived.WalkKit
import Derived.StillTactics
import Derived.Outline
import Derived.Test.YtfkeaglbfembnaaDoorSha2
import Derived.Test.YtfkeaglbfembnaaDoorMid
namespace Go.Proofs.YtfkeaglbfembnaaDoor.Sha4
open Go Go.RowKit Go.Proofs.YtfkeaglbfembnaaDoor.Arr Go.Proofs.YtfkeaglbfembnaaDoor.Mid Go.Proofs.YtfkeaglbfembnaaDoor.Sha1 Go.Proofs.YtfkeaglbfembnaaDoor.Sha2
set_option maxRecDepth 100000
set_option linter.unusedVariables false
set_option linter.unusedSimpArgs false
/-- A hash's cells: its words, the bytes that wait, how many bytes there were, whether it is begun. -/
def hc (H : Nat → W32) (R : Nat → B8) (n : Nat) (bg : Bool) : Array Value :=
  arr 74 fun i => if i < 8 then wd (H i) else if i < 72 then by8 (R (i - 8)) else if i = 72 then .int .u64 n else .bool bg
theorem hc_size (H R n bg) : (hc H R n bg).size = 74 := arr_size _ _
theorem hc_one (H R n bg) : (hc H R n bg).all (·.oneCell') = true := arr_one _ _ fun i _ => by
  by_cases h1 : i < 8
  · simp only [if_pos h1]; rfl
  · by_cases h2 : i < 72
    · simp only [if_neg h1, if_pos h2]; rfl
    · by_cases h3 : i = 72
      · simp only [if_neg h1, if_neg h2, if_pos h3]; rfl
      · simp only [if_neg h1, if_neg h2, if_neg h3]; rfl
theorem hc_word (H R n bg) (i : Nat) (h : i < 8) : (hc H R n bg)[i]? = some (wd (H i)) := by
  unfold hc; rw [arr_get _ _ _ (by omega), if_pos h]
theorem hc_rest (H R n bg) (i : Nat) (h : i < 64) : (hc H R n bg)[8 + i]? = some (by8 (R i)) := by
  unfold hc; rw [arr_get _ _ _ (by omega), if_neg (by omega), if_pos (by omega), show 8 + i - 8 = i by omega]
theorem hc_n (H R n bg) : (hc H R n bg)[72]? = some (.int .u64 n) := by
  unfold hc; rw [arr_get _ _ _ (by omega)]; rfl
theorem hc_begun (H R n bg) : (hc H R n bg)[73]? = some (.bool bg) := by
  unfold hc; rw [arr_get _ _ _ (by omega)]; rfl
theorem hc_congr (H H' R R' n bg) (h : ∀ i, i < 8 → H i = H' i) (k : ∀ i, i < 64 → R i = R' i) : hc H R n bg = hc H' R' n bg := by
  unfold hc; apply arr_congr; intro i hi
  by_cases h1 : i < 8
  · simp only [if_pos h1]; rw [h i h1]
  · by_cases h2 : i < 72
    · simp only [if_neg h1, if_pos h2]; rw [k (i - 8) (by omega)]
    · simp only [if_neg h1, if_neg h2]
theorem hc_setWord (H R n bg) (i : Nat) (v : W32) (hi : i < 8) : (hc H R n bg).setIfInBounds i (wd v) = hc (fun j => if j = i then v else H j) R n bg := by
  unfold hc; rw [arr_set]; apply arr_congr; intro j hj; unfold upd
  by_cases e : j = i
  · subst e; simp [hi]
  · rw [if_neg e]; by_cases h1 : j < 8
    · simp only [if_pos h1, if_neg e]
    · simp only [if_neg h1]
theorem hc_setN (H R n bg) (m : Nat) : (hc H R n bg).setIfInBounds 72 (.int .u64 m) = hc H R m bg := by
  unfold hc; rw [arr_set]; apply arr_congr; intro j hj; unfold upd
  by_cases e : j = 72
  · subst e; simp
  · rw [if_neg e]; by_cases h1 : j < 8
    · simp only [if_pos h1]
    · simp only [if_neg h1, if_neg e]
attribute [irreducible] hc
theorem mid_words {w : World} {g : Nat} {H R n bg} {t : TypeId} {fr : Nat × Nat} (hg : w.heap[g]? = some (.cells (hc H R n bg) t fr)) : ∀ j v, (words 8 H)[j]? = some v → w.cell? ⟨g, 0 + j, none⟩ = some v := by
  intro j v hv
  have hj : j < 8 := by
    have := (Array.getElem?_eq_some_iff.1 hv).1; rwa [words_size] at this
  rw [words_get 8 H j hj] at hv
  rw [Nat.zero_add, ← hv]
  exact cell_of hg (hc_word H R n bg j hj)
theorem prt_setH (f g : Nat → W32) (R n bg) (k : Nat) (hk : k < 8) : (hc (prt f g k) R n bg).setIfInBounds k (wd (f k)) = hc (prt f g (k + 1)) R n bg := by
  rw [hc_setWord _ _ _ _ _ _ hk]; apply hc_congr
  · intro j _
    unfold prt
    by_cases e : j = k
    · subst e; simp
    · rw [if_neg e]; by_cases l : j < k
      · rw [if_pos l, if_pos (by omega)]
      · rw [if_neg l, if_neg (by omega)]
  · intro _ _; rfl
theorem prt_zeroH (f g : Nat → W32) (R n bg) : hc (prt f g 0) R n bg = hc g R n bg := by
  apply hc_congr
  · intro j _; unfold prt; rw [if_neg (by omega)]
  · intro _ _; rfl
theorem prt_allH (f g : Nat → W32) (R n bg) : hc (prt f g 8) R n bg = hc f R n bg := by
  apply hc_congr
  · intro j h; unfold prt; rw [if_pos h]
  · intro _ _; rfl
theorem b_not2 (e : W32) : bits .xor .u32 IntKind.u32.max (e.toNat : Int) = ((e ^^^ 4294967295#32).toNat : Int) := by
  rw [BitVec.xor_comm]; exact b_xor 4294967295#32 e
def tsum (k x : W32) (V : Nat → W32) : Int := ((V 7).toNat : Int) + bits .xor .u32 (bits .xor .u32 ((ror (V 4) 6).toNat : Int) ((ror (V 4) 11).toNat : Int)) ((ror (V 4) 25).toNat : Int) + bits .xor .u32 (bits .and .u32 ((V 4).toNat : Int) ((V 5).toNat : Int)) (bits .and .u32 (bits .xor .u32 IntKind.u32.max ((V 4).toNat : Int)) ((V 6).toNat : Int)) + (k.toNat : Int) + (x.toNat : Int)
theorem tsum_val (k x : W32) (V : Nat → W32) : BitVec.ofInt 32 (tsum k x V) = tone k x V := by
  unfold tsum
  rw [b_not2, b_xor, b_xor, b_and, b_and, b_xor]
  simp only [BitVec.ofInt_add, ofInt_toNat]
  rfl
theorem row_val2 (k x : W32) (V : Nat → W32) : #[Value.int .u32 ((((V 7).toNat : Int) + bits .xor .u32 (bits .xor .u32 ((ror (V 4) 6).toNat : Int) ((ror (V 4) 11).toNat : Int)) ((ror (V 4) 25).toNat : Int) + bits .xor .u32 (bits .and .u32 ((V 4).toNat : Int) ((V 5).toNat : Int)) (bits .and .u32 (bits .xor .u32 IntKind.u32.max ((V 4).toNat : Int)) ((V 6).toNat : Int)) + (k.toNat : Int) + (x.toNat : Int)
      + (bits .xor .u32 (bits .xor .u32 ((ror (V 0) 2).toNat : Int) ((ror (V 0) 13).toNat : Int)) ((ror (V 0) 22).toNat : Int) + bits .xor .u32 (bits .xor .u32 (bits .and .u32 ((V 0).toNat : Int) ((V 1).toNat : Int)) (bits .and .u32 ((V 0).toNat : Int) ((V 2).toNat : Int))) (bits .and .u32 ((V 1).toNat : Int) ((V 2).toNat : Int)))) % 4294967296),
      .int .u32 ((V 0).toNat : Int), .int .u32 ((V 1).toNat : Int), .int .u32 ((V 2).toNat : Int),
      .int .u32 ((((V 3).toNat : Int) + (((V 7).toNat : Int) + bits .xor .u32 (bits .xor .u32 ((ror (V 4) 6).toNat : Int) ((ror (V 4) 11).toNat : Int)) ((ror (V 4) 25).toNat : Int) + bits .xor .u32 (bits .and .u32 ((V 4).toNat : Int) ((V 5).toNat : Int)) (bits .and .u32 (bits .xor .u32 IntKind.u32.max ((V 4).toNat : Int)) ((V 6).toNat : Int)) + (k.toNat : Int) + (x.toNat : Int))) % 4294967296),
      .int .u32 ((V 4).toNat : Int), .int .u32 ((V 5).toNat : Int), .int .u32 ((V 6).toNat : Int)] = words 8 (rstep k x V) := by
  have e : ∀ y : Int, (((V 7).toNat : Int) + bits .xor .u32 (bits .xor .u32 ((ror (V 4) 6).toNat : Int) ((ror (V 4) 11).toNat : Int)) ((ror (V 4) 25).toNat : Int) + bits .xor .u32 (bits .and .u32 ((V 4).toNat : Int) ((V 5).toNat : Int)) (bits .and .u32 (bits .xor .u32 IntKind.u32.max ((V 4).toNat : Int)) ((V 6).toNat : Int)) + (k.toNat : Int) + (x.toNat : Int) + y) = tsum k x V + y := fun _ => rfl
  have e2 : (((V 7).toNat : Int) + bits .xor .u32 (bits .xor .u32 ((ror (V 4) 6).toNat : Int) ((ror (V 4) 11).toNat : Int)) ((ror (V 4) 25).toNat : Int) + bits .xor .u32 (bits .and .u32 ((V 4).toNat : Int) ((V 5).toNat : Int)) (bits .and .u32 (bits .xor .u32 IntKind.u32.max ((V 4).toNat : Int)) ((V 6).toNat : Int)) + (k.toNat : Int) + (x.toNat : Int)) = tsum k x V := rfl
  rw [words8, e, e2, emod_bv, emod_bv, BitVec.ofInt_add, BitVec.ofInt_add ((V 3).toNat : Int), tsum_val, b_xor (ror (V 0) 2), b_xor, b_and, b_and, b_and, b_xor, b_xor, BitVec.ofInt_add, ofInt_toNat, ofInt_toNat, ofInt_toNat, ← BitVec.add_assoc]
  rfl
set_option maxHeartbeats 8000000 in
theorem c_block (H : Nat → W32) (R : Nat → B8) (n : Nat) (bg : Bool) (K : Nat → W32) (g b o cap : Nat) (B : Nat → B8) (w : World) (hg : w.heap[g]? = some (.cells (hc H R n bg) 38 (0, 0))) (hb : b < w.heap.size) (hB : Bytes w b o 64 B)
    (hK : ∀ i, i < 64 → w.cell? ⟨1, i, none⟩ = some (wd (K i))) (h1 : 1 < w.heap.size) (hg1 : 1 < g) :
    Calls Tryd.prog 43 #[.pointer (some ⟨g, 0, none⟩), .slice (some ⟨b, o, none⟩) 64 cap] w fun e w' => e = .returned (.tuple #[]) ∧ w'.heap[g]? = some (.cells (hc (blockf K H B) R n bg) 38 (0, 0)) ∧ w.grownBy w' (some g) := by
  have hz64 := zero_words64
  have hlg := lt_of hg
  go_enter Tryd.func43, Tryd.ntmps43
  go_wp2
  go_loopw [16] (fun i wr => ∃ t : Nat, t ≤ 16 ∧ i = .int .i64 t ∧ wr.heap[w.heap.size]? = some (.cells (words 64 (upto (sched B) t)) 41 (0, 0)) ∧ Below w.heap.size w wr) (fun i _ => (16 - intOf i).toNat)
  case atStart => exact ⟨0, by omega, rfl, by rw [upto_zero]; (with_reducible repeat (first | assumption | (refine p1 ?_; (first | omega | (simp <;> omega))) | (refine p2 ?_ ?_; focus (first | omega | (simp <;> omega))) | refine p3 ?_ | refine p4 ?_ | apply p5 | (refine p6 ?_ ?_; focus (first | omega | (simp <;> omega))) | apply p7 | (refine p8 ?_ ?_; focus (first | omega | (simp <;> omega))) | (refine p9 (by assumption) ?_ ?_; focus (first | omega | (simp <;> omega))) | (refine p10 (by assumption) ?_ ?_; focus (first | omega | (simp <;> omega))))), by (with_reducible repeat (first | assumption | exact Below.refl _ _ | (refine b4 ?_ ?_; focus (first | omega | (simp <;> omega))) | refine b2 ?_ | refine Below.drew ?_ | (refine b5 ?_ ?_; focus (first | omega | (simp <;> omega))) | (refine b1 ?_ ?_; focus (first | omega | (simp <;> omega))) | (refine b3 (by assumption) ?_ ?_; focus (first | omega | (simp <;> omega))) | (refine b6 (by assumption) ?_ ?_; focus (first | omega | (simp <;> omega)))))⟩
  case round =>
    obtain ⟨t, ht, rfl, g3, hb0⟩ := hrel
    have hs1 := hb0.size
    by_cases h16 : t < 16
    · have t64 : (t : Int) < 64 := by omega
      have e0 : IntKind.i64.wrap (4 * (t : Int)) = 4 * (t : Int) := wrap64 _ (by omega) (by omega)
      have v0 : (0 : Int) ≤ 4 * (t : Int) := by omega
      have l0 : 4 * (t : Int) < 64 := by omega
      have n0 : (4 * (t : Int)).toNat = 4 * t := by omega
      have e1 : IntKind.i64.wrap (4 * (t : Int) + 1) = 4 * (t : Int) + 1 := wrap64 _ (by omega) (by omega)
      have v1 : (0 : Int) ≤ 4 * (t : Int) + 1 := by omega
      have l1 : 4 * (t : Int) + 1 < 64 := by omega
      have n1 : (4 * (t : Int) + 1).toNat = 4 * t + 1 := by omega
      have e2 : IntKind.i64.wrap (4 * (t : Int) + 2) = 4 * (t : Int) + 2 := wrap64 _ (by omega) (by omega)
      have v2 : (0 : Int) ≤ 4 * (t : Int) + 2 := by omega
      have l2 : 4 * (t : Int) + 2 < 64 := by omega
      have n2 : (4 * (t : Int) + 2).toNat = 4 * t + 2 := by omega
      have e3 : IntKind.i64.wrap (4 * (t : Int) + 3) = 4 * (t : Int) + 3 := wrap64 _ (by omega) (by omega)
      have v3 : (0 : Int) ≤ 4 * (t : Int) + 3 := by omega
      have l3 : 4 * (t : Int) + 3 < 64 := by omega
      have n3 : (4 * (t : Int) + 3).toNat = 4 * t + 3 := by omega
      have k0 : wr.cell? ⟨b, o + 4 * t, none⟩ = some (by8 (B (4 * t))) := (cell_below hb0 b _ hb).trans (hB (4 * t) (by omega))
      have k1 : wr.cell? ⟨b, o + (4 * t + 1), none⟩ = some (by8 (B (4 * t + 1))) := (cell_below hb0 b _ hb).trans (hB (4 * t + 1) (by omega))
      have k2 : wr.cell? ⟨b, o + (4 * t + 2), none⟩ = some (by8 (B (4 * t + 2))) := (cell_below hb0 b _ hb).trans (hB (4 * t + 2) (by omega))
      have k3 : wr.cell? ⟨b, o + (4 * t + 3), none⟩ = some (by8 (B (4 * t + 3))) := (cell_below hb0 b _ hb).trans (hB (4 * t + 3) (by omega))
      unfold by8 at k0 k1 k2 k3
      go_wp2_with fail
      refine Arr.region_tail 35 (by kernel_rfl) (by kernel_rfl) rfl rfl ?_; simp only [List.take_succ_cons, List.take_zero, List.drop_succ_cons, List.drop_zero]; (repeat still_step)
      refine wpStill_nil ?_
      go_wp2_with (first | ((with_reducible refine Arr.arm_store1 cell33 rfl ?_); refine ⟨rfl, _, _, _, _, _, rfl, rfl, by (with_reducible repeat (first | assumption | (refine p1 ?_; (first | omega | (simp <;> omega))) | (refine p2 ?_ ?_; focus (first | omega | (simp <;> omega))) | refine p3 ?_ | refine p4 ?_ | apply p5 | (refine p6 ?_ ?_; focus (first | omega | (simp <;> omega))) | apply p7 | (refine p8 ?_ ?_; focus (first | omega | (simp <;> omega))) | (refine p9 (by assumption) ?_ ?_; focus (first | omega | (simp <;> omega))) | (refine p10 (by assumption) ?_ ?_; focus (first | omega | (simp <;> omega))))), by (rw [words_size]; omega), rfl, ?_⟩; (try simp only [Act.put, Act.eval, List.setIfInBounds_toArray, List.set_cons_zero, List.set_cons_succ, Array.getD_eq_getD_getElem?, List.getElem?_toArray, List.getElem?_cons_zero, List.getElem?_cons_succ, Option.getD_some])))
      go_round
      case rel =>
        refine ⟨t + 1, by omega, rfl, ?_, by (with_reducible repeat (first | assumption | exact Below.refl _ _ | (refine b4 ?_ ?_; focus (first | omega | (simp <;> omega))) | refine b2 ?_ | refine Below.drew ?_ | (refine b5 ?_ ?_; focus (first | omega | (simp <;> omega))) | (refine b1 ?_ ?_; focus (first | omega | (simp <;> omega))) | (refine b3 (by assumption) ?_ ?_; focus (first | omega | (simp <;> omega))) | (refine b6 (by assumption) ?_ ?_; focus (first | omega | (simp <;> omega)))))⟩
        rw [← upto_set (sched B) 64 t _ rfl, sched_lt B t h16]
        unfold wd
        rw [← word4_or]
        (with_reducible repeat (first | assumption | (refine p1 ?_; (first | omega | (simp <;> omega))) | (refine p2 ?_ ?_; focus (first | omega | (simp <;> omega))) | refine p3 ?_ | refine p4 ?_ | apply p5 | (refine p6 ?_ ?_; focus (first | omega | (simp <;> omega))) | apply p7 | (refine p8 ?_ ?_; focus (first | omega | (simp <;> omega))) | (refine p9 (by assumption) ?_ ?_; focus (first | omega | (simp <;> omega))) | (refine p10 (by assumption) ?_ ?_; focus (first | omega | (simp <;> omega)))))
      case measure => first | (simp [intOf]; done) | (simp [intOf]; omega)
    · have e : t = 16 := by omega
      subst e
      go_wp2_with fail
      obtain ⟨w1, hw1⟩ : ∃ w1 : World, w1 = wr := ⟨_, rfl⟩
      subst hw1
      go_loopw [6] (fun i wr => ∃ t : Nat, 16 ≤ t ∧ t ≤ 64 ∧ i = .int .i64 t ∧ wr.heap[w.heap.size]? = some (.cells (words 64 (upto (sched B) t)) 41 (0, 0)) ∧ Below w.heap.size w wr) (fun i _ => (64 - intOf i).toNat)
      case atStart => exact ⟨16, by omega, by omega, rfl, by (with_reducible repeat (first | assumption | (refine p1 ?_; (first | omega | (simp <;> omega))) | (refine p2 ?_ ?_; focus (first | omega | (simp <;> omega))) | refine p3 ?_ | refine p4 ?_ | apply p5 | (refine p6 ?_ ?_; focus (first | omega | (simp <;> omega))) | apply p7 | (refine p8 ?_ ?_; focus (first | omega | (simp <;> omega))) | (refine p9 (by assumption) ?_ ?_; focus (first | omega | (simp <;> omega))) | (refine p10 (by assumption) ?_ ?_; focus (first | omega | (simp <;> omega))))), by (with_reducible repeat (first | assumption | exact Below.refl _ _ | (refine b4 ?_ ?_; focus (first | omega | (simp <;> omega))) | refine b2 ?_ | refine Below.drew ?_ | (refine b5 ?_ ?_; focus (first | omega | (simp <;> omega))) | (refine b1 ?_ ?_; focus (first | omega | (simp <;> omega))) | (refine b3 (by assumption) ?_ ?_; focus (first | omega | (simp <;> omega))) | (refine b6 (by assumption) ?_ ?_; focus (first | omega | (simp <;> omega)))))⟩
      case round =>
        clear g3 hb0
        obtain ⟨t, ht0, ht, rfl, g3, hb0⟩ := hrel
        have hs1 := hb0.size
        by_cases h64 : t < 64
        · obtain ⟨s, rfl⟩ : ∃ s, t = s + 16 := ⟨t - 16, by omega⟩
          have d1 := words_get 64 (upto (sched B) (s + 16)) (s + 1) (by omega)
          have d2 := words_get 64 (upto (sched B) (s + 16)) (s + 14) (by omega)
          have d3 := words_get 64 (upto (sched B) (s + 16)) (s + 9) (by omega)
          have d4 := words_get 64 (upto (sched B) (s + 16)) s (by omega)
          rw [upto_lt _ _ _ (by omega)] at d1 d2 d3 d4
          unfold wd at d1 d2 d3 d4
          have f1 := cell_of g3 d1
          have f2 := cell_of g3 d2
          go_wp2_with fail
          go_quiet (fail)
          go_wp2_with fail
          have x7 : IntKind.i64.wrap ((s : Int) + 16 - 7) = (s : Int) + 9 := by rw [wrap64 _ (by omega) (by omega)]; omega
          have y7 : (0 : Int) ≤ (s : Int) + 9 := by omega
          have z7 : (s : Int) + 9 < 64 := by omega
          have u7 : ((s : Int) + 9).toNat = s + 9 := by omega
          have x8 : IntKind.i64.wrap ((s : Int) + 16 - 16) = (s : Int) := by rw [wrap64 _ (by omega) (by omega)]; omega
          have x9 : IntKind.i64.wrap (s : Int) = (s : Int) := wrap64 _ (by omega) (by omega)
          have z8 : (s : Int) < 64 := by omega
          have y8 : (0 : Int) ≤ (s : Int) := by omega
          have q3 := cell_of g3 d3
          have q4 := cell_of g3 d4
          refine Arr.region_tail 28 (by kernel_rfl) (by kernel_rfl) rfl rfl ?_; simp only [List.take_succ_cons, List.take_zero, List.drop_succ_cons, List.drop_zero]; (repeat still_step)
          still_call (c_rol17 (sched B (s + 14)) _)
          (repeat still_step)
          still_call (c_rol19 (sched B (s + 14)) _)
          (repeat still_step)
          still_call (c_rol7 (sched B (s + 1)) _)
          (repeat still_step)
          still_call (c_rol18 (sched B (s + 1)) _)
          (repeat still_step)
          refine wpStill_nil ?_
          go_wp2_with (first | ((with_reducible refine Arr.arm_store1 cell33 rfl ?_); refine ⟨rfl, _, _, _, _, _, rfl, rfl, by (with_reducible repeat (first | assumption | (refine p1 ?_; (first | omega | (simp <;> omega))) | (refine p2 ?_ ?_; focus (first | omega | (simp <;> omega))) | refine p3 ?_ | refine p4 ?_ | apply p5 | (refine p6 ?_ ?_; focus (first | omega | (simp <;> omega))) | apply p7 | (refine p8 ?_ ?_; focus (first | omega | (simp <;> omega))) | (refine p9 (by assumption) ?_ ?_; focus (first | omega | (simp <;> omega))) | (refine p10 (by assumption) ?_ ?_; focus (first | omega | (simp <;> omega))))), by (rw [words_size]; omega), rfl, ?_⟩; (try simp only [Act.put, Act.eval, List.setIfInBounds_toArray, List.set_cons_zero, List.set_cons_succ, Array.getD_eq_getD_getElem?, List.getElem?_toArray, List.getElem?_cons_zero, List.getElem?_cons_succ, Option.getD_some])))
          go_round
          case rel =>
            (repeat apply Exists.intro)
            refine ⟨⟨s + 16 + 1, by omega, by omega, rfl, ?_, by (with_reducible repeat (first | assumption | exact Below.refl _ _ | (refine b4 ?_ ?_; focus (first | omega | (simp <;> omega))) | refine b2 ?_ | refine Below.drew ?_ | (refine b5 ?_ ?_; focus (first | omega | (simp <;> omega))) | (refine b1 ?_ ?_; focus (first | omega | (simp <;> omega))) | (refine b3 (by assumption) ?_ ?_; focus (first | omega | (simp <;> omega))) | (refine b6 (by assumption) ?_ ?_; focus (first | omega | (simp <;> omega)))))⟩, rfl⟩
            rw [← upto_set (sched B) 64 (s + 16) _ rfl, sched_ge]
            unfold wd
            rw [← sched_val]
            (with_reducible repeat (first | assumption | (refine p1 ?_; (first | omega | (simp <;> omega))) | (refine p2 ?_ ?_; focus (first | omega | (simp <;> omega))) | refine p3 ?_ | refine p4 ?_ | apply p5 | (refine p6 ?_ ?_; focus (first | omega | (simp <;> omega))) | apply p7 | (refine p8 ?_ ?_; focus (first | omega | (simp <;> omega))) | (refine p9 (by assumption) ?_ ?_; focus (first | omega | (simp <;> omega))) | (refine p10 (by assumption) ?_ ?_; focus (first | omega | (simp <;> omega)))))
          case measure => first | (simp [intOf]; done) | (simp [intOf]; omega)
        · have e : t = 64 := by omega
          subst e
          clear hz64
          have hz8 := zero_words8
          have hlw := lt_of g3
          have hgr : wr.heap[g]? = some (.cells (hc H R n bg) 38 (0, 0)) := by (with_reducible repeat (first | assumption | (refine p1 ?_; (first | omega | (simp <;> omega))) | (refine p2 ?_ ?_; focus (first | omega | (simp <;> omega))) | refine p3 ?_ | refine p4 ?_ | apply p5 | (refine p6 ?_ ?_; focus (first | omega | (simp <;> omega))) | apply p7 | (refine p8 ?_ ?_; focus (first | omega | (simp <;> omega))) | (refine p9 (by assumption) ?_ ?_; focus (first | omega | (simp <;> omega))) | (refine p10 (by assumption) ?_ ?_; focus (first | omega | (simp <;> omega)))))
          go_wp2_with (first | ((with_reducible refine Mid.arm_loadm row34 rfl ?_); refine ⟨rfl, _, _, words 8 H, rfl, (mid_words (by (with_reducible repeat (first | assumption | (refine p1 ?_; (first | omega | (simp <;> omega))) | (refine p2 ?_ ?_; focus (first | omega | (simp <;> omega))) | refine p3 ?_ | refine p4 ?_ | apply p5 | (refine p6 ?_ ?_; focus (first | omega | (simp <;> omega))) | apply p7 | (refine p8 ?_ ?_; focus (first | omega | (simp <;> omega))) | (refine p9 (by assumption) ?_ ?_; focus (first | omega | (simp <;> omega))) | (refine p10 (by assumption) ?_ ?_; focus (first | omega | (simp <;> omega))))))), by (exact words_size _ _), ?_⟩) | ((with_reducible refine Arr.arm_store row34 rfl ?_); refine ⟨rfl, _, _, _, _, rfl, rfl, by (with_reducible repeat (first | assumption | (refine p1 ?_; (first | omega | (simp <;> omega))) | (refine p2 ?_ ?_; focus (first | omega | (simp <;> omega))) | refine p3 ?_ | refine p4 ?_ | apply p5 | (refine p6 ?_ ?_; focus (first | omega | (simp <;> omega))) | apply p7 | (refine p8 ?_ ?_; focus (first | omega | (simp <;> omega))) | (refine p9 (by assumption) ?_ ?_; focus (first | omega | (simp <;> omega))) | (refine p10 (by assumption) ?_ ?_; focus (first | omega | (simp <;> omega))))), by (exact words_size _ _), by (exact words_size _ _), by (exact words_one _ _), ?_⟩))
          obtain ⟨w2, hw2⟩ : ∃ w2 : World, w2 = wr := ⟨_, rfl⟩
          subst hw2
          go_loopw [100] (fun i wr => ∃ t : Nat, t ≤ 64 ∧ i = .int .i64 t ∧ wr.heap[w.heap.size]? = some (.cells (words 64 (upto (sched B) 64)) 41 (0, 0)) ∧ wr.heap[w2.heap.size]? = some (.cells (words 8 (rounds K (sched B) H t)) 34 (0, 0)) ∧ Below w.heap.size w wr) (fun i _ => (64 - intOf i).toNat)
          case atStart => exact ⟨0, by omega, rfl, by (with_reducible repeat (first | assumption | (refine p1 ?_; (first | omega | (simp <;> omega))) | (refine p2 ?_ ?_; focus (first | omega | (simp <;> omega))) | refine p3 ?_ | refine p4 ?_ | apply p5 | (refine p6 ?_ ?_; focus (first | omega | (simp <;> omega))) | apply p7 | (refine p8 ?_ ?_; focus (first | omega | (simp <;> omega))) | (refine p9 (by assumption) ?_ ?_; focus (first | omega | (simp <;> omega))) | (refine p10 (by assumption) ?_ ?_; focus (first | omega | (simp <;> omega))))), by rw [show rounds K (sched B) H 0 = H from rfl]; (with_reducible repeat (first | assumption | (refine p1 ?_; (first | omega | (simp <;> omega))) | (refine p2 ?_ ?_; focus (first | omega | (simp <;> omega))) | refine p3 ?_ | refine p4 ?_ | apply p5 | (refine p6 ?_ ?_; focus (first | omega | (simp <;> omega))) | apply p7 | (refine p8 ?_ ?_; focus (first | omega | (simp <;> omega))) | (refine p9 (by assumption) ?_ ?_; focus (first | omega | (simp <;> omega))) | (refine p10 (by assumption) ?_ ?_; focus (first | omega | (simp <;> omega))))), by (with_reducible repeat (first | assumption | exact Below.refl _ _ | (refine b4 ?_ ?_; focus (first | omega | (simp <;> omega))) | refine b2 ?_ | refine Below.drew ?_ | (refine b5 ?_ ?_; focus (first | omega | (simp <;> omega))) | (refine b1 ?_ ?_; focus (first | omega | (simp <;> omega))) | (refine b3 (by assumption) ?_ ?_; focus (first | omega | (simp <;> omega))) | (refine b6 (by assumption) ?_ ?_; focus (first | omega | (simp <;> omega)))))⟩
          case round =>
            clear g3 hb0 hz8 hgr
            have hz8 := zero_lit8
            obtain ⟨t, ht, rfl, g3, g4, hb0⟩ := hrel
            have hs2 := hb0.size
            by_cases ht64 : t < 64
            · have v0 := cell_of g4 (words_get 8 (rounds K (sched B) H t) 0 (by omega))
              have v1 := cell_of g4 (words_get 8 (rounds K (sched B) H t) 1 (by omega))
              have v2 := cell_of g4 (words_get 8 (rounds K (sched B) H t) 2 (by omega))
              have v3 := cell_of g4 (words_get 8 (rounds K (sched B) H t) 3 (by omega))
              have v4 := cell_of g4 (words_get 8 (rounds K (sched B) H t) 4 (by omega))
              have v5 := cell_of g4 (words_get 8 (rounds K (sched B) H t) 5 (by omega))
              have v6 := cell_of g4 (words_get 8 (rounds K (sched B) H t) 6 (by omega))
              have v7 := cell_of g4 (words_get 8 (rounds K (sched B) H t) 7 (by omega))
              have kt : wr.cell? ⟨1, t, none⟩ = some (wd (K t)) := (cell_below hb0 1 _ h1).trans (hK t ht64)
              have xt := cell_of g3 (words_get 64 (upto (sched B) 64) t ht64)
              rw [upto_lt _ _ _ ht64] at xt
              obtain ⟨V, hV⟩ : ∃ V, V = rounds K (sched B) H t := ⟨_, rfl⟩
              rw [← hV] at v0 v1 v2 v3 v4 v5 v6 v7
              unfold wd at v0 v1 v2 v3 v4 v5 v6 v7 kt xt
              have HV := hid hV
              clear hV
              go_wp2_with fail
              go_quiet (fail)
              go_wp2_with fail
              refine Arr.region_tail 30 (by kernel_rfl) (by kernel_rfl) rfl rfl ?_; simp only [List.take_succ_cons, List.take_zero, List.drop_succ_cons, List.drop_zero]; (repeat still_step)
              still_call (c_rol6 (V 4) _)
              (repeat still_step)
              still_call (c_rol11 (V 4) _)
              (repeat still_step)
              still_call (c_rol25 (V 4) _)
              (repeat still_step)
              refine wpStill_nil ?_
              go_wp2_with fail
              refine Arr.region_tail 24 (by kernel_rfl) (by kernel_rfl) rfl rfl ?_; simp only [List.take_succ_cons, List.take_zero, List.drop_succ_cons, List.drop_zero]; (repeat still_step)
              still_call (c_rol2 (V 0) _)
              (repeat still_step)
              still_call (c_rol13 (V 0) _)
              (repeat still_step)
              still_call (c_rol22 (V 0) _)
              (repeat still_step)
              refine wpStill_nil ?_
              go_wp2_with (first | ((with_reducible refine Arr.arm_store row34 rfl ?_); refine ⟨rfl, _, _, _, _, rfl, rfl, by (with_reducible repeat (first | assumption | (refine p1 ?_; (first | omega | (simp <;> omega))) | (refine p2 ?_ ?_; focus (first | omega | (simp <;> omega))) | refine p3 ?_ | refine p4 ?_ | apply p5 | (refine p6 ?_ ?_; focus (first | omega | (simp <;> omega))) | apply p7 | (refine p8 ?_ ?_; focus (first | omega | (simp <;> omega))) | (refine p9 (by assumption) ?_ ?_; focus (first | omega | (simp <;> omega))) | (refine p10 (by assumption) ?_ ?_; focus (first | omega | (simp <;> omega))))), by (first | (with_reducible exact words_size _ _) | kernel_rfl), by (first | (with_reducible exact words_size _ _) | kernel_rfl), by (first | (with_reducible exact words_one _ _) | kernel_rfl), ?_⟩))
              go_round
              case rel =>
                refine ⟨t + 1, by omega, rfl, by (with_reducible repeat (first | assumption | (refine p1 ?_; (first | omega | (simp <;> omega))) | (refine p2 ?_ ?_; focus (first | omega | (simp <;> omega))) | refine p3 ?_ | refine p4 ?_ | apply p5 | (refine p6 ?_ ?_; focus (first | omega | (simp <;> omega))) | apply p7 | (refine p8 ?_ ?_; focus (first | omega | (simp <;> omega))) | (refine p9 (by assumption) ?_ ?_; focus (first | omega | (simp <;> omega))) | (refine p10 (by assumption) ?_ ?_; focus (first | omega | (simp <;> omega))))), ?_, by (with_reducible repeat (first | assumption | exact Below.refl _ _ | (refine b4 ?_ ?_; focus (first | omega | (simp <;> omega))) | refine b2 ?_ | refine Below.drew ?_ | (refine b5 ?_ ?_; focus (first | omega | (simp <;> omega))) | (refine b1 ?_ ?_; focus (first | omega | (simp <;> omega))) | (refine b3 (by assumption) ?_ ?_; focus (first | omega | (simp <;> omega))) | (refine b6 (by assumption) ?_ ?_; focus (first | omega | (simp <;> omega)))))⟩
                rw [show rounds K (sched B) H (t + 1) = rstep (K t) (sched B t) V by rw [HV.out]; rfl, ← row_val2]
                (with_reducible repeat (first | assumption | (refine p1 ?_; (first | omega | (simp <;> omega))) | (refine p2 ?_ ?_; focus (first | omega | (simp <;> omega))) | refine p3 ?_ | refine p4 ?_ | apply p5 | (refine p6 ?_ ?_; focus (first | omega | (simp <;> omega))) | apply p7 | (refine p8 ?_ ?_; focus (first | omega | (simp <;> omega))) | (refine p9 (by assumption) ?_ ?_; focus (first | omega | (simp <;> omega))) | (refine p10 (by assumption) ?_ ?_; focus (first | omega | (simp <;> omega)))))
              case measure => first | (simp [intOf]; done) | (simp [intOf]; omega)
            · have e : t = 64 := by omega
              subst e
              go_wp2_with fail
              obtain ⟨w3, hw3⟩ : ∃ w3 : World, w3 = wr := ⟨_, rfl⟩
              subst hw3
              have hgr : w3.heap[g]? = some (.cells (hc H R n bg) 38 (0, 0)) := by (with_reducible repeat (first | assumption | (refine p1 ?_; (first | omega | (simp <;> omega))) | (refine p2 ?_ ?_; focus (first | omega | (simp <;> omega))) | refine p3 ?_ | refine p4 ?_ | apply p5 | (refine p6 ?_ ?_; focus (first | omega | (simp <;> omega))) | apply p7 | (refine p8 ?_ ?_; focus (first | omega | (simp <;> omega))) | (refine p9 (by assumption) ?_ ?_; focus (first | omega | (simp <;> omega))) | (refine p10 (by assumption) ?_ ?_; focus (first | omega | (simp <;> omega)))))
              go_loopw [180] (fun i wr => ∃ t : Nat, t ≤ 8 ∧ i = .int .i64 t ∧ wr.heap[g]? = some (.cells (hc (prt (blockf K H B) H t) R n bg) 38 (0, 0)) ∧ wr.heap[w2.heap.size]? = some (.cells (words 8 (rounds K (sched B) H 64)) 34 (0, 0)) ∧ w.grownBy wr (some g)) (fun i _ => (8 - intOf i).toNat)
              case atStart => exact ⟨0, by omega, rfl, by rw [prt_zeroH]; (with_reducible repeat (first | assumption | (refine p1 ?_; (first | omega | (simp <;> omega))) | (refine p2 ?_ ?_; focus (first | omega | (simp <;> omega))) | refine p3 ?_ | refine p4 ?_ | apply p5 | (refine p6 ?_ ?_; focus (first | omega | (simp <;> omega))) | apply p7 | (refine p8 ?_ ?_; focus (first | omega | (simp <;> omega))) | (refine p9 (by assumption) ?_ ?_; focus (first | omega | (simp <;> omega))) | (refine p10 (by assumption) ?_ ?_; focus (first | omega | (simp <;> omega))))), by (with_reducible repeat (first | assumption | (refine p1 ?_; (first | omega | (simp <;> omega))) | (refine p2 ?_ ?_; focus (first | omega | (simp <;> omega))) | refine p3 ?_ | refine p4 ?_ | apply p5 | (refine p6 ?_ ?_; focus (first | omega | (simp <;> omega))) | apply p7 | (refine p8 ?_ ?_; focus (first | omega | (simp <;> omega))) | (refine p9 (by assumption) ?_ ?_; focus (first | omega | (simp <;> omega))) | (refine p10 (by assumption) ?_ ?_; focus (first | omega | (simp <;> omega))))), by (with_reducible repeat (first | assumption | exact gbr | refine gb4 ?_ | refine gb2 ?_ | refine gb3 ?_ | (refine gb5 ?_ ?_; focus (first | omega | (simp <;> omega))) | (refine gb1 ?_ ?_; focus (first | omega | (simp <;> omega))) | (refine gb8 (by assumption) ?_) | (refine gb6 (by assumption) ?_ ?_; focus (first | omega | (simp <;> omega))) | (refine gb7 (by assumption) ?_ ?_; focus (first | omega | (simp <;> omega))) | (refine gb0 ?_; focus ((with_reducible repeat (first | assumption | exact Below.refl _ _ | (refine b4 ?_ ?_; focus (first | omega | (simp <;> omega))) | refine b2 ?_ | refine Below.drew ?_ | (refine b5 ?_ ?_; focus (first | omega | (simp <;> omega))) | (refine b1 ?_ ?_; focus (first | omega | (simp <;> omega))) | (refine b3 (by assumption) ?_ ?_; focus (first | omega | (simp <;> omega))) | (refine b6 (by assumption) ?_ ?_; focus (first | omega | (simp <;> omega))))); done))))⟩
              case round =>
                clear g3 g4 hgr hz8
                obtain ⟨j, hj, rfl, g1, g4, hb2⟩ := hrel
                have hs3 := hb2.size
                by_cases hj8 : j < 8
                · have d1 := hc_word (prt (blockf K H B) H j) R n bg j hj8
                  rw [prt_at] at d1
                  have d2 := words_get 8 (rounds K (sched B) H 64) j hj8
                  unfold wd at d1 d2
                  have c1 := cell_of g1 d1
                  have c2 := cell_of g4 d2
                  go_wp2_with fail
                  refine Arr.region_tail 13 (by kernel_rfl) (by kernel_rfl) rfl rfl ?_; simp only [List.take_succ_cons, List.take_zero, List.drop_succ_cons, List.drop_zero]; (repeat still_step)
                  refine wpStill_nil ?_
                  go_wp2_with (first | ((with_reducible refine Arr.arm_store1 cell33 rfl ?_); refine ⟨rfl, _, _, _, _, _, rfl, rfl, by (with_reducible repeat (first | assumption | (refine p1 ?_; (first | omega | (simp <;> omega))) | (refine p2 ?_ ?_; focus (first | omega | (simp <;> omega))) | refine p3 ?_ | refine p4 ?_ | apply p5 | (refine p6 ?_ ?_; focus (first | omega | (simp <;> omega))) | apply p7 | (refine p8 ?_ ?_; focus (first | omega | (simp <;> omega))) | (refine p9 (by assumption) ?_ ?_; focus (first | omega | (simp <;> omega))) | (refine p10 (by assumption) ?_ ?_; focus (first | omega | (simp <;> omega))))), by (rw [hc_size]; omega), rfl, ?_⟩; (try simp only [Act.put, Act.eval, List.setIfInBounds_toArray, List.set_cons_zero, List.set_cons_succ, Array.getD_eq_getD_getElem?, List.getElem?_toArray, List.getElem?_cons_zero, List.getElem?_cons_succ, Option.getD_some])))
                  go_round
                  case rel =>
                    (repeat apply Exists.intro)
                    refine ⟨⟨j + 1, by omega, rfl, ?_, by (with_reducible repeat (first | assumption | (refine p1 ?_; (first | omega | (simp <;> omega))) | (refine p2 ?_ ?_; focus (first | omega | (simp <;> omega))) | refine p3 ?_ | refine p4 ?_ | apply p5 | (refine p6 ?_ ?_; focus (first | omega | (simp <;> omega))) | apply p7 | (refine p8 ?_ ?_; focus (first | omega | (simp <;> omega))) | (refine p9 (by assumption) ?_ ?_; focus (first | omega | (simp <;> omega))) | (refine p10 (by assumption) ?_ ?_; focus (first | omega | (simp <;> omega))))), by (with_reducible repeat (first | assumption | exact gbr | refine gb4 ?_ | refine gb2 ?_ | refine gb3 ?_ | (refine gb5 ?_ ?_; focus (first | omega | (simp <;> omega))) | (refine gb1 ?_ ?_; focus (first | omega | (simp <;> omega))) | (refine gb8 (by assumption) ?_) | (refine gb6 (by assumption) ?_ ?_; focus (first | omega | (simp <;> omega))) | (refine gb7 (by assumption) ?_ ?_; focus (first | omega | (simp <;> omega))) | (refine gb0 ?_; focus ((with_reducible repeat (first | assumption | exact Below.refl _ _ | (refine b4 ?_ ?_; focus (first | omega | (simp <;> omega))) | refine b2 ?_ | refine Below.drew ?_ | (refine b5 ?_ ?_; focus (first | omega | (simp <;> omega))) | (refine b1 ?_ ?_; focus (first | omega | (simp <;> omega))) | (refine b3 (by assumption) ?_ ?_; focus (first | omega | (simp <;> omega))) | (refine b6 (by assumption) ?_ ?_; focus (first | omega | (simp <;> omega))))); done))))⟩, rfl⟩
                    rw [← prt_setH _ _ _ _ _ _ hj8, show blockf K H B j = H j + rounds K (sched B) H 64 j from rfl]
                    unfold wd
                    rw [← b_add]
                    (with_reducible repeat (first | assumption | (refine p1 ?_; (first | omega | (simp <;> omega))) | (refine p2 ?_ ?_; focus (first | omega | (simp <;> omega))) | refine p3 ?_ | refine p4 ?_ | apply p5 | (refine p6 ?_ ?_; focus (first | omega | (simp <;> omega))) | apply p7 | (refine p8 ?_ ?_; focus (first | omega | (simp <;> omega))) | (refine p9 (by assumption) ?_ ?_; focus (first | omega | (simp <;> omega))) | (refine p10 (by assumption) ?_ ?_; focus (first | omega | (simp <;> omega)))))
                  case measure => first | (simp [intOf]; done) | (simp [intOf]; omega)
                · have e : j = 8 := by omega
                  subst e
                  rw [prt_allH] at g1
                  go_wp2_with fail
                  go_end0
                  exact ⟨rfl, by (with_reducible repeat (first | assumption | (refine p1 ?_; (first | omega | (simp <;> omega))) | (refine p2 ?_ ?_; focus (first | omega | (simp <;> omega))) | refine p3 ?_ | refine p4 ?_ | apply p5 | (refine p6 ?_ ?_; focus (first | omega | (simp <;> omega))) | apply p7 | (refine p8 ?_ ?_; focus (first | omega | (simp <;> omega))) | (refine p9 (by assumption) ?_ ?_; focus (first | omega | (simp <;> omega))) | (refine p10 (by assumption) ?_ ?_; focus (first | omega | (simp <;> omega))))), by (with_reducible repeat (first | assumption | exact gbr | refine gb4 ?_ | refine gb2 ?_ | refine gb3 ?_ | (refine gb5 ?_ ?_; focus (first | omega | (simp <;> omega))) | (refine gb1 ?_ ?_; focus (first | omega | (simp <;> omega))) | (refine gb8 (by assumption) ?_) | (refine gb6 (by assumption) ?_ ?_; focus (first | omega | (simp <;> omega))) | (refine gb7 (by assumption) ?_ ?_; focus (first | omega | (simp <;> omega))) | (refine gb0 ?_; focus ((with_reducible repeat (first | assumption | exact Below.refl _ _ | (refine b4 ?_ ?_; focus (first | omega | (simp <;> omega))) | refine b2 ?_ | refine Below.drew ?_ | (refine b5 ?_ ?_; focus (first | omega | (simp <;> omega))) | (refine b1 ?_ ?_; focus (first | omega | (simp <;> omega))) | (refine b3 (by assumption) ?_ ?_; focus (first | omega | (simp <;> omega))) | (refine b6 (by assumption) ?_ ?_; focus (first | omega | (simp <;> omega))))); done))))⟩
end Go.Proofs.YtfkeaglbfembnaaDoor.Sha4
