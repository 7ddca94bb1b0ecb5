/- The reference's sizes with signs: a number's size and sign, and the number of a size and a sign, held at the ends. -/
import Derived.Test.YtbccafpaeplabaaBig2
namespace Go.Proofs.Ytbccafpaeplabaa.Big
open Go.RowKit Go.Proofs.Ytbccafpaeplabaa.Arr
open Go.Proofs.Ytbccafpaeplabaa
set_option linter.unusedVariables false
set_option linter.unusedSimpArgs false
set_option maxRecDepth 100000

def ofbits (x : Nat) (k : Nat) (i : Nat) : Bool := if i < k then x.testBit i else false
theorem ofbits_succ (x k j : Nat) : ofbits x (k + 1) j = if j = k then x.testBit k else ofbits x k j := by
  unfold ofbits
  by_cases e : j = k
  · subst e; simp
  · have e2 : (j < k + 1) = (j < k) := by apply propext; omega
    simp only [if_neg e, e2]
theorem ofbits_all (x : Nat) (h : x < 2 ^ 63) : big (ofbits x 64) = bn x := by
  unfold bn; apply big_congr; intro i _; unfold ofbits
  by_cases c : i < 64
  · rw [if_pos c]
  · rw [if_neg c]
    rw [Nat.testBit_lt_two_pow]
    exact Nat.lt_of_lt_of_le h (Nat.pow_le_pow_right (by decide) (by omega))

theorem i64_and_1 (n : Int) : Go.bits .and .i64 n 1 = n % 2 := by
  have h1 : (BitVec.ofInt 64 1).toNat = 2 ^ 1 - 1 := by decide
  have key : (BitVec.ofInt 64 n &&& BitVec.ofInt 64 1).toNat = (n % ((2 ^ 64 : Nat) : Int)).toNat % 2 ^ 1 := by
    rw [BitVec.toNat_and, BitVec.toNat_ofInt, h1, Nat.and_two_pow_sub_one_eq_mod]
  show IntKind.i64.wrap ((BitVec.ofInt 64 n &&& BitVec.ofInt 64 1).toNat : Nat) = n % 2
  rw [key, IntKind.wrap_i64]
  omega
theorem bit_int (x k : Nat) : (Go.bits .and .i64 ((x : Int) / 2 ^ k) 1 == 1) = x.testBit k := by
  rw [i64_and_1, testBit_div]
  have e : ((x : Int) / 2 ^ k) = ((x / 2 ^ k : Nat) : Int) := by simp
  rw [e]
  rw [Bool.eq_iff_iff]
  simp
  omega
theorem bit_63 (x : Nat) (h : x < 2 ^ 63) : x.testBit 63 = false := Nat.testBit_lt_two_pow h
theorem bn_set1 : (big fun _ => false).setIfInBounds 0 (.bool true) = bn 1 := by
  unfold bn; rw [big_set]; apply big_congr; intro i _
  by_cases e : i = 0
  · subst e; simp
  · rw [if_neg e, Nat.testBit_lt_two_pow]
    obtain ⟨j, rfl⟩ : ∃ j, i = j + 1 := ⟨i - 1, by omega⟩
    have := Nat.pow_pos (a := 2) (n := j) (by decide)
    rw [Nat.pow_succ]; omega

set_option maxHeartbeats 2000000 in
theorem of_pos (x : Nat) (hx : x < 2 ^ 63) (w : World) :
    Calls Try.prog 28 #[.int .i64 x] w fun e w' => e = .returned (.tuple #[.agg (bn x), .bool false]) ∧ Below w.heap.size w w' := by
  have hz := zero_big
  have HX := hid hx
  have hx' : (x : Int) ≤ 9223372036854775807 := by
    have : (2 : Nat) ^ 63 = 9223372036854775808 := by decide
    omega
  have hneg : decide ((x : Int) < 0) = false := decide_eq_false (by omega)
  clear hx
  go_enter Try.func28, Try.ntmps28
  go_wp2
  go_loopw [6] (fun i wr => ∃ k : Nat, k ≤ 64 ∧ i = .int .i64 k ∧ ∃ nd, wr = ((w.alloc (.cells (big fun _ => false) 40)).alloc (.cells (big (ofbits x k)) 40)).drewN nd) (fun i _ => 64 - (intOf i).toNat)
  case atStart =>
    have e : ofbits x 0 = fun _ => false := by funext i; unfold ofbits; rw [if_neg (by omega)]
    exact ⟨0, by omega, rfl, 0, by rw [e]; rfl⟩
  case round =>
    obtain ⟨k, hk, rfl, nd, rfl⟩ := hrel
    by_cases hlt : k < 64
    · have h3 := big_get (ofbits x k) k (by omega)
      have h4 := big_size (ofbits x k)
      by_cases h63 : k < 63
      · go_wp2
        clear h3 h4 hz
        go_round
        case rel => exact ⟨k + 1, by omega, by go_num, _, step_last (fun k => x.testBit k) (ofbits x) k (ofbits_succ x k) _ (bit_int x k) _ _ _ (by simp)⟩
        case measure => first | (simp [intOf]; done) | (simp [intOf]; omega)
      · obtain rfl : k = 63 := by omega
        go_wp2
        clear h3 h4 hz
        go_round
        case rel => exact ⟨63 + 1, by omega, by go_num, _, step_last (fun k => x.testBit k) (ofbits x) 63 (ofbits_succ x 63) _ ((bit_63 x HX.out).symm) _ _ _ (by simp)⟩
        case measure => first | (simp [intOf]; done) | (simp [intOf]; omega)
    · have : k = 64 := by omega
      subst this
      rw [ofbits_all x HX.out]
      go_wp2_with (first | ((with_reducible refine Arr.arm_load row40 rfl ?_); refine ⟨rfl, _, _, _, _, rfl, by (with_reducible repeat (first | assumption | (refine p1 ?_; (first | omega | (simp <;> omega))) | (refine p2 ?_ ?_; focus (first | omega | (simp <;> omega))) | refine p3 ?_ | refine p4 ?_ | apply p5 | (refine p6 ?_ ?_; focus (first | omega | (simp <;> omega))) | apply p7 | (refine p8 ?_ ?_; focus (first | omega | (simp <;> omega))) | (refine p9 (by assumption) ?_ ?_; focus (first | omega | (simp <;> omega))))), by (first | exact bn_size _ | exact big_size _ | (rw [Array.size_setIfInBounds]; exact bn_size _) | (rw [Array.size_setIfInBounds]; exact big_size _)), ?_⟩; skip) | ((with_reducible refine Arr.arm_store row40 rfl ?_); refine ⟨rfl, _, _, _, _, rfl, rfl, by (with_reducible repeat (first | assumption | (refine p1 ?_; (first | omega | (simp <;> omega))) | (refine p2 ?_ ?_; focus (first | omega | (simp <;> omega))) | refine p3 ?_ | refine p4 ?_ | apply p5 | (refine p6 ?_ ?_; focus (first | omega | (simp <;> omega))) | apply p7 | (refine p8 ?_ ?_; focus (first | omega | (simp <;> omega))) | (refine p9 (by assumption) ?_ ?_; focus (first | omega | (simp <;> omega))))), by (first | exact bn_size _ | exact big_size _ | (rw [Array.size_setIfInBounds]; exact bn_size _) | (rw [Array.size_setIfInBounds]; exact big_size _)), by (first | exact bn_size _ | exact big_size _ | (rw [Array.size_setIfInBounds]; exact bn_size _) | (rw [Array.size_setIfInBounds]; exact big_size _)), by (first | exact bn_one _ | exact big_one _), ?_⟩))
      refine Arr.ret_row_tmp rfl row40 rfl ⟨_, _, _, _, rfl, by (with_reducible repeat (first | assumption | (refine p1 ?_; (first | omega | (simp <;> omega))) | (refine p2 ?_ ?_; focus (first | omega | (simp <;> omega))) | refine p3 ?_ | refine p4 ?_ | apply p5 | (refine p6 ?_ ?_; focus (first | omega | (simp <;> omega))) | apply p7 | (refine p8 ?_ ?_; focus (first | omega | (simp <;> omega))) | (refine p9 (by assumption) ?_ ?_; focus (first | omega | (simp <;> omega))))), by (first | exact bn_size _ | exact big_size _ | (rw [Array.size_setIfInBounds]; exact bn_size _) | (rw [Array.size_setIfInBounds]; exact big_size _)), ?_⟩
      exact ⟨rfl, by (with_reducible repeat (first | assumption | exact Below.refl _ _ | (refine b4 ?_ ?_; focus (first | omega | (simp <;> omega))) | refine b2 ?_ | refine Below.drew ?_ | (refine b5 ?_ ?_; focus (first | omega | (simp <;> omega))) | (refine b1 ?_ ?_; focus (first | omega | (simp <;> omega))) | (refine b3 (by assumption) ?_ ?_; focus (first | omega | (simp <;> omega)))))⟩

set_option maxHeartbeats 2000000 in
theorem of_neg (x : Nat) (hx : x < 2 ^ 63) (n : Int) (hn0 : n < 0) (hn1 : -9223372036854775808 ≤ n) (hnx : n + 1 = -(x : Int)) (w : World) :
    Calls Try.prog 28 #[.int .i64 n] w fun e w' => e = .returned (.tuple #[.agg (bn (x + 1)), .bool true]) ∧ Below w.heap.size w w' := by
  have hz := zero_big
  have HX := hid hx
  have hx' : (x : Int) ≤ 9223372036854775807 := by
    have : (2 : Nat) ^ 63 = 9223372036854775808 := by decide
    omega
  have hneg : decide ((n : Int) < 0) = true := decide_eq_true (by omega)
  clear hx
  go_enter Try.func28, Try.ntmps28
  go_wp2
  go_loopw [6] (fun i wr => ∃ k : Nat, k ≤ 64 ∧ i = .int .i64 k ∧ ∃ nd, wr = ((w.alloc (.cells (big fun _ => false) 40)).alloc (.cells (big (ofbits x k)) 40)).drewN nd) (fun i _ => 64 - (intOf i).toNat)
  case atStart =>
    have e : ofbits x 0 = fun _ => false := by funext i; unfold ofbits; rw [if_neg (by omega)]
    exact ⟨0, by omega, rfl, 0, by rw [e]; rfl⟩
  case round =>
    obtain ⟨k, hk, rfl, nd, rfl⟩ := hrel
    by_cases hlt : k < 64
    · have h3 := big_get (ofbits x k) k (by omega)
      have h4 := big_size (ofbits x k)
      by_cases h63 : k < 63
      · go_wp2
        clear h3 h4 hz
        go_round
        case rel => exact ⟨k + 1, by omega, by go_num, _, step_last (fun k => x.testBit k) (ofbits x) k (ofbits_succ x k) _ (bit_int x k) _ _ _ (by simp)⟩
        case measure => first | (simp [intOf]; done) | (simp [intOf]; omega)
      · obtain rfl : k = 63 := by omega
        go_wp2
        clear h3 h4 hz
        go_round
        case rel => exact ⟨63 + 1, by omega, by go_num, _, step_last (fun k => x.testBit k) (ofbits x) 63 (ofbits_succ x 63) _ ((bit_63 x HX.out).symm) _ _ _ (by simp)⟩
        case measure => first | (simp [intOf]; done) | (simp [intOf]; omega)
    · have : k = 64 := by omega
      subst this
      rw [ofbits_all x HX.out]
      have hbld : ∀ w, (Instr.build 40 #[]).run Try.prog w = .ok (.agg (big fun _ => false)) w := by intro w; kernel_rfl
      go_wp2_with (first | ((with_reducible refine Arr.arm_load row40 rfl ?_); refine ⟨rfl, _, _, _, _, rfl, by (with_reducible repeat (first | assumption | (refine p1 ?_; (first | omega | (simp <;> omega))) | (refine p2 ?_ ?_; focus (first | omega | (simp <;> omega))) | refine p3 ?_ | refine p4 ?_ | apply p5 | (refine p6 ?_ ?_; focus (first | omega | (simp <;> omega))) | apply p7 | (refine p8 ?_ ?_; focus (first | omega | (simp <;> omega))) | (refine p9 (by assumption) ?_ ?_; focus (first | omega | (simp <;> omega))))), by (first | exact bn_size _ | exact big_size _ | (rw [Array.size_setIfInBounds]; exact bn_size _) | (rw [Array.size_setIfInBounds]; exact big_size _)), ?_⟩; (try simp only [bn_set1])) | ((with_reducible refine Arr.arm_store row40 rfl ?_); refine ⟨rfl, _, _, _, _, rfl, rfl, by (with_reducible repeat (first | assumption | (refine p1 ?_; (first | omega | (simp <;> omega))) | (refine p2 ?_ ?_; focus (first | omega | (simp <;> omega))) | refine p3 ?_ | refine p4 ?_ | apply p5 | (refine p6 ?_ ?_; focus (first | omega | (simp <;> omega))) | apply p7 | (refine p8 ?_ ?_; focus (first | omega | (simp <;> omega))) | (refine p9 (by assumption) ?_ ?_; focus (first | omega | (simp <;> omega))))), by (first | exact bn_size _ | exact big_size _ | (rw [Array.size_setIfInBounds]; exact bn_size _) | (rw [Array.size_setIfInBounds]; exact big_size _)), by (first | exact bn_size _ | exact big_size _ | (rw [Array.size_setIfInBounds]; exact bn_size _) | (rw [Array.size_setIfInBounds]; exact big_size _)), by (first | exact bn_one _ | exact big_one _), ?_⟩) | ((with_reducible refine Arr.arm_store1 cell4 rfl ?_); refine ⟨rfl, _, _, _, _, _, rfl, rfl, by (with_reducible repeat (first | assumption | (refine p1 ?_; (first | omega | (simp <;> omega))) | (refine p2 ?_ ?_; focus (first | omega | (simp <;> omega))) | refine p3 ?_ | refine p4 ?_ | apply p5 | (refine p6 ?_ ?_; focus (first | omega | (simp <;> omega))) | apply p7 | (refine p8 ?_ ?_; focus (first | omega | (simp <;> omega))) | (refine p9 (by assumption) ?_ ?_; focus (first | omega | (simp <;> omega))))), by (first | (rw [bn_size]; omega) | (rw [big_size]; omega)), rfl, ?_⟩; (try simp only [Act.put, Act.eval, List.setIfInBounds_toArray, List.set_cons_zero, List.set_cons_succ, Array.getD_eq_getD_getElem?, List.getElem?_toArray, List.getElem?_cons_zero, List.getElem?_cons_succ, Option.getD_some])) | (go_at_call 36; (with_reducible refine (plus_nat _ _ _).mono ?_); rintro e w1 ⟨rfl, hb1⟩; have hz1 := hb1.size; (try simp only [World.size_alloc, World.size_setCell, World.size_drew, setRow_size, Arr.size_drewN] at hz1)))
      refine Arr.ret_row_tmp rfl row40 rfl ⟨_, _, _, _, rfl, by (with_reducible repeat (first | assumption | (refine p1 ?_; (first | omega | (simp <;> omega))) | (refine p2 ?_ ?_; focus (first | omega | (simp <;> omega))) | refine p3 ?_ | refine p4 ?_ | apply p5 | (refine p6 ?_ ?_; focus (first | omega | (simp <;> omega))) | apply p7 | (refine p8 ?_ ?_; focus (first | omega | (simp <;> omega))) | (refine p9 (by assumption) ?_ ?_; focus (first | omega | (simp <;> omega))))), by (first | exact bn_size _ | exact big_size _ | (rw [Array.size_setIfInBounds]; exact bn_size _) | (rw [Array.size_setIfInBounds]; exact big_size _)), ?_⟩
      exact ⟨rfl, by (with_reducible repeat (first | assumption | exact Below.refl _ _ | (refine b4 ?_ ?_; focus (first | omega | (simp <;> omega))) | refine b2 ?_ | refine Below.drew ?_ | (refine b5 ?_ ?_; focus (first | omega | (simp <;> omega))) | (refine b1 ?_ ?_; focus (first | omega | (simp <;> omega))) | (refine b3 (by assumption) ?_ ?_; focus (first | omega | (simp <;> omega)))))⟩

end Go.Proofs.Ytbccafpaeplabaa.Big
