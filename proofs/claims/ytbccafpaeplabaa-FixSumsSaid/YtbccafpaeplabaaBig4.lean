/- The reference's answers: a number of a size and a sign, held at the ends; sums, differences, whole numbers. -/
import Derived.Test.YtbccafpaeplabaaBig3
import Derived.Test.YtbccafpaeplabaaVal
namespace Go.Proofs.Ytbccafpaeplabaa.Big
open Go.RowKit Go.Proofs.Ytbccafpaeplabaa.Arr Go.Proofs.Ytbccafpaeplabaa.Val
open Go.Proofs.Ytbccafpaeplabaa
set_option linter.unusedVariables false
set_option linter.unusedSimpArgs false
set_option maxRecDepth 100000

theorem less_yes (a b : Nat) (ha : a < 2 ^ 160) (hb : b < 2 ^ 160) (h : a < b) (w : World) : Calls Try.prog 37 #[.agg (bn a), .agg (bn b)] w fun e w' => e = .returned (.bool true) ∧ Below w.heap.size w w' := by
  have := less_nat a b ha hb w
  rwa [decide_eq_true h] at this
theorem less_no (a b : Nat) (ha : a < 2 ^ 160) (hb : b < 2 ^ 160) (h : ¬ a < b) (w : World) : Calls Try.prog 37 #[.agg (bn a), .agg (bn b)] w fun e w' => e = .returned (.bool false) ∧ Below w.heap.size w w' := by
  have := less_nat a b ha hb w
  rwa [decide_eq_false h] at this

theorem bn_set63 : (big fun _ => false).setIfInBounds 63 (.bool true) = bn 9223372036854775808 := by
  have e : (9223372036854775808 : Nat) = 2 ^ 63 := by decide
  rw [e]
  unfold bn; rw [big_set]; apply big_congr; intro i _
  rw [Nat.testBit_two_pow]
  by_cases c : i = 63
  · subst c; simp
  · rw [if_neg c]; simp; omega

theorem acc_step (a k : Nat) : 2 * (a / 2 ^ (k + 1)) + (a.testBit k).toNat = a / 2 ^ k := (shift_div a k).symm

/-- What stands behind the addition of what is left: the number itself. -/
def heldV (v : Nat) (below : Bool) : Int := clamp (signed v below)

theorem lit63 : (9223372036854775808 : Nat) < 2 ^ 160 := by decide

set_option maxHeartbeats 4000000 in
theorem held_small (v : Nat) (below more : Bool) (a : Nat) (hva : v = a + (below && more).toNat) (hv : v < 9223372036854775808) (w : World) :
    Calls Try.prog 29 #[.agg (bn a), .bool below, .bool more] w fun e w' => e = .returned (.int .i64 (signed v below)) ∧ Below w.heap.size w w' := by
  have hz := zero_big
  have h160 : v < 2 ^ 160 := Nat.lt_of_lt_of_le hv (by decide)
  have H160 := hid h160
  clear h160
  have hdec : v < 9223372036854775808 := hv
  have HD := hid hdec
  clear hdec
  cases below <;> cases more
  all_goals
    simp only [Bool.and_true, Bool.and_false, Bool.false_and, Bool.true_and, Bool.toNat_false, Bool.toNat_true, Nat.add_zero] at hva
    have HVA := hid hva
    clear hva
    go_enter Try.func29, Try.ntmps29
    go_wp2_with (first | ((with_reducible refine Arr.arm_load row40 rfl ?_); refine ⟨rfl, _, _, _, _, rfl, by (with_reducible repeat (first | assumption | (refine p1 ?_; (first | omega | (simp <;> omega))) | (refine p2 ?_ ?_; focus (first | omega | (simp <;> omega))) | refine p3 ?_ | refine p4 ?_ | apply p5 | (refine p6 ?_ ?_; focus (first | omega | (simp <;> omega))) | apply p7 | (refine p8 ?_ ?_; focus (first | omega | (simp <;> omega))) | (refine p9 (by assumption) ?_ ?_; focus (first | omega | (simp <;> omega))))), by (first | exact bn_size _ | exact big_size _ | (rw [Array.size_setIfInBounds]; exact bn_size _) | (rw [Array.size_setIfInBounds]; exact big_size _)), ?_⟩; (try simp only [bn_set1, bn_set63])) | ((with_reducible refine Arr.arm_store row40 rfl ?_); refine ⟨rfl, _, _, _, _, rfl, rfl, by (with_reducible repeat (first | assumption | (refine p1 ?_; (first | omega | (simp <;> omega))) | (refine p2 ?_ ?_; focus (first | omega | (simp <;> omega))) | refine p3 ?_ | refine p4 ?_ | apply p5 | (refine p6 ?_ ?_; focus (first | omega | (simp <;> omega))) | apply p7 | (refine p8 ?_ ?_; focus (first | omega | (simp <;> omega))) | (refine p9 (by assumption) ?_ ?_; focus (first | omega | (simp <;> omega))))), by (first | exact bn_size _ | exact big_size _ | (rw [Array.size_setIfInBounds]; exact bn_size _) | (rw [Array.size_setIfInBounds]; exact big_size _)), by (first | exact bn_size _ | exact big_size _ | (rw [Array.size_setIfInBounds]; exact bn_size _) | (rw [Array.size_setIfInBounds]; exact big_size _)), by (first | exact bn_one _ | exact big_one _), ?_⟩) | ((with_reducible refine Arr.arm_store1 cell4 rfl ?_); refine ⟨rfl, _, _, _, _, _, rfl, rfl, by (with_reducible repeat (first | assumption | (refine p1 ?_; (first | omega | (simp <;> omega))) | (refine p2 ?_ ?_; focus (first | omega | (simp <;> omega))) | refine p3 ?_ | refine p4 ?_ | apply p5 | (refine p6 ?_ ?_; focus (first | omega | (simp <;> omega))) | apply p7 | (refine p8 ?_ ?_; focus (first | omega | (simp <;> omega))) | (refine p9 (by assumption) ?_ ?_; focus (first | omega | (simp <;> omega))))), by (first | (rw [bn_size]; omega) | (rw [big_size]; omega)), rfl, ?_⟩; (try simp only [Act.put, Act.eval, List.setIfInBounds_toArray, List.set_cons_zero, List.set_cons_succ, Array.getD_eq_getD_getElem?, List.getElem?_toArray, List.getElem?_cons_zero, List.getElem?_cons_succ, Option.getD_some])) | (go_at_call 36; (with_reducible refine (plus_nat _ _ _).mono ?_); rintro e w1 ⟨rfl, hb1⟩; have hz1 := hb1.size; (try simp only [World.size_alloc, World.size_setCell, World.size_drew, setRow_size, Arr.size_drewN] at hz1)) | ((rw [← HVA.out]); (go_at_call 37; (with_reducible refine (less_yes _ _ H160.out lit63 HD.out _).mono ?_); rintro e w2 ⟨rfl, hb2⟩; have hz2 := hb2.size; (try simp only [World.size_alloc, World.size_setCell, World.size_drew, setRow_size, Arr.size_drewN] at hz2))))
    go_loopw [9, 10] (fun n i wr => ∃ k : Nat, k ≤ 63 ∧ i = .int .i64 ((k : Int) - 1) ∧ n = .int .i64 ((v / 2 ^ k : Nat) : Int) ∧ Below w.heap.size w wr ∧ wr.heap[w.heap.size]? = some (.cells (bn v) 40 (0, 0))) (fun _ i _ => (intOf i + 1).toNat)
    case atStart =>
      have e : v / 2 ^ 63 = 0 := Nat.div_eq_of_lt hv
      exact ⟨63, by omega, rfl, by rw [e]; rfl, by (with_reducible repeat (first | assumption | exact Below.refl _ _ | (refine b4 ?_ ?_; focus (first | omega | (simp <;> omega))) | refine b2 ?_ | refine Below.drew ?_ | (refine b5 ?_ ?_; focus (first | omega | (simp <;> omega))) | (refine b1 ?_ ?_; focus (first | omega | (simp <;> omega))) | (refine b3 (by assumption) ?_ ?_; focus (first | omega | (simp <;> omega))))), by (with_reducible repeat (first | assumption | (refine p1 ?_; (first | omega | (simp <;> omega))) | (refine p2 ?_ ?_; focus (first | omega | (simp <;> omega))) | refine p3 ?_ | refine p4 ?_ | apply p5 | (refine p6 ?_ ?_; focus (first | omega | (simp <;> omega))) | apply p7 | (refine p8 ?_ ?_; focus (first | omega | (simp <;> omega))) | (refine p9 (by assumption) ?_ ?_; focus (first | omega | (simp <;> omega)))))⟩
    case round =>
      obtain ⟨k, hk, rfl, rfl, hbl, hrow⟩ := hrel
      by_cases hlt : 0 < k
      · obtain ⟨k, rfl⟩ : ∃ j, k = j + 1 := ⟨k - 1, by omega⟩
        have e1 : ((k + 1 : Nat) : Int) - 1 = (k : Int) := by omega
        rw [e1]
        clear e1
        have h0 : (0 : Int) ≤ (k : Int) := by omega
        have hst := acc_step v k
        have hle : v / 2 ^ k ≤ v := Nat.div_le_self _ _
        have hc := cell_of hrow (bn_get v k (by omega))
        cases hb : v.testBit k
        all_goals
          rw [hb] at hst hc
          simp only [Bool.toNat_true, Bool.toNat_false, Nat.add_zero] at hst
          obtain ⟨N, hN⟩ : ∃ N, N = v / 2 ^ (k + 1) := ⟨_, rfl⟩
          rw [← hN] at hst ⊢
          have hbd : 2 * (N : Int) ≤ 9223372036854775806 := by omega
          have hbd2 : (0 : Int) ≤ (N : Int) := by omega
          have HST := hid hst
          have HN := hid hN
          clear hst hN hle
          go_wp2
          go_round
          case rel => exact ⟨k, by omega, rfl, by (rw [← HST.out]; go_num), hbl, hrow⟩
          case measure => first | (simp [intOf]; done) | (simp [intOf]; omega)
      · obtain rfl : k = 0 := by omega
        have e : v / 2 ^ 0 = v := by simp
        rw [e]
        have hv' : (v : Int) ≤ 9223372036854775807 := by omega
        have hv0 : (0 : Int) ≤ (v : Int) := by omega
        go_wp2
        go_ret
        exact ⟨rfl, hbl⟩

set_option maxHeartbeats 4000000 in
theorem held_great (v : Nat) (below more : Bool) (a : Nat) (hva : v = a + (below && more).toNat) (hv : 9223372036854775808 ≤ v) (h160 : v < 2 ^ 160) (w : World) :
    Calls Try.prog 29 #[.agg (bn a), .bool below, .bool more] w fun e w' => e = .returned (.int .i64 (if below then -9223372036854775808 else 9223372036854775807)) ∧ Below w.heap.size w w' := by
  have hz := zero_big
  have H160 := hid h160
  clear h160
  have hdec : ¬ v < 9223372036854775808 := by omega
  have HD := hid hdec
  clear hdec
  cases below <;> cases more
  all_goals
    simp only [Bool.and_true, Bool.and_false, Bool.false_and, Bool.true_and, Bool.toNat_false, Bool.toNat_true, Nat.add_zero] at hva
    have HVA := hid hva
    clear hva
    go_enter Try.func29, Try.ntmps29
    go_wp2_with (first | ((with_reducible refine Arr.arm_load row40 rfl ?_); refine ⟨rfl, _, _, _, _, rfl, by (with_reducible repeat (first | assumption | (refine p1 ?_; (first | omega | (simp <;> omega))) | (refine p2 ?_ ?_; focus (first | omega | (simp <;> omega))) | refine p3 ?_ | refine p4 ?_ | apply p5 | (refine p6 ?_ ?_; focus (first | omega | (simp <;> omega))) | apply p7 | (refine p8 ?_ ?_; focus (first | omega | (simp <;> omega))) | (refine p9 (by assumption) ?_ ?_; focus (first | omega | (simp <;> omega))))), by (first | exact bn_size _ | exact big_size _ | (rw [Array.size_setIfInBounds]; exact bn_size _) | (rw [Array.size_setIfInBounds]; exact big_size _)), ?_⟩; (try simp only [bn_set1, bn_set63])) | ((with_reducible refine Arr.arm_store row40 rfl ?_); refine ⟨rfl, _, _, _, _, rfl, rfl, by (with_reducible repeat (first | assumption | (refine p1 ?_; (first | omega | (simp <;> omega))) | (refine p2 ?_ ?_; focus (first | omega | (simp <;> omega))) | refine p3 ?_ | refine p4 ?_ | apply p5 | (refine p6 ?_ ?_; focus (first | omega | (simp <;> omega))) | apply p7 | (refine p8 ?_ ?_; focus (first | omega | (simp <;> omega))) | (refine p9 (by assumption) ?_ ?_; focus (first | omega | (simp <;> omega))))), by (first | exact bn_size _ | exact big_size _ | (rw [Array.size_setIfInBounds]; exact bn_size _) | (rw [Array.size_setIfInBounds]; exact big_size _)), by (first | exact bn_size _ | exact big_size _ | (rw [Array.size_setIfInBounds]; exact bn_size _) | (rw [Array.size_setIfInBounds]; exact big_size _)), by (first | exact bn_one _ | exact big_one _), ?_⟩) | ((with_reducible refine Arr.arm_store1 cell4 rfl ?_); refine ⟨rfl, _, _, _, _, _, rfl, rfl, by (with_reducible repeat (first | assumption | (refine p1 ?_; (first | omega | (simp <;> omega))) | (refine p2 ?_ ?_; focus (first | omega | (simp <;> omega))) | refine p3 ?_ | refine p4 ?_ | apply p5 | (refine p6 ?_ ?_; focus (first | omega | (simp <;> omega))) | apply p7 | (refine p8 ?_ ?_; focus (first | omega | (simp <;> omega))) | (refine p9 (by assumption) ?_ ?_; focus (first | omega | (simp <;> omega))))), by (first | (rw [bn_size]; omega) | (rw [big_size]; omega)), rfl, ?_⟩; (try simp only [Act.put, Act.eval, List.setIfInBounds_toArray, List.set_cons_zero, List.set_cons_succ, Array.getD_eq_getD_getElem?, List.getElem?_toArray, List.getElem?_cons_zero, List.getElem?_cons_succ, Option.getD_some])) | (go_at_call 36; (with_reducible refine (plus_nat _ _ _).mono ?_); rintro e w1 ⟨rfl, hb1⟩; have hz1 := hb1.size; (try simp only [World.size_alloc, World.size_setCell, World.size_drew, setRow_size, Arr.size_drewN] at hz1)) | ((rw [← HVA.out]); (go_at_call 37; (with_reducible refine (less_no _ _ H160.out lit63 HD.out _).mono ?_); rintro e w2 ⟨rfl, hb2⟩; have hz2 := hb2.size; (try simp only [World.size_alloc, World.size_setCell, World.size_drew, setRow_size, Arr.size_drewN] at hz2))))
    go_ret
    exact ⟨rfl, by (with_reducible repeat (first | assumption | exact Below.refl _ _ | (refine b4 ?_ ?_; focus (first | omega | (simp <;> omega))) | refine b2 ?_ | refine Below.drew ?_ | (refine b5 ?_ ?_; focus (first | omega | (simp <;> omega))) | (refine b1 ?_ ?_; focus (first | omega | (simp <;> omega))) | (refine b3 (by assumption) ?_ ?_; focus (first | omega | (simp <;> omega)))))⟩

theorem held_calls (a : Nat) (below more : Bool) (ha : a + 1 < 2 ^ 160) (w : World) :
    Calls Try.prog 29 #[.agg (bn a), .bool below, .bool more] w fun e w' => e = .returned (.int .i64 (clamp (signed (a + (below && more).toNat) below))) ∧ Below w.heap.size w w' := by
  have hle : (below && more).toNat ≤ 1 := Bool.toNat_le _
  have hb : below = false → (below && more).toNat = 0 := by intro h; subst h; rfl
  generalize hv : a + (below && more).toNat = v
  by_cases c : v < 9223372036854775808
  · have h := held_small v below more a hv.symm c w
    have e : clamp (signed v below) = signed v below := by
      unfold clamp signed; cases below <;> simp <;> omega
    rwa [e]
  · by_cases c2 : v = 9223372036854775808 ∧ below = true
    · obtain ⟨c2, c3⟩ := c2
      have h := held_great v below more a hv.symm (by omega) (by omega) w
      have e : clamp (signed v below) = if below = true then -9223372036854775808 else 9223372036854775807 := by
        subst c3; rw [c2]; rfl
      rwa [e]
    · have h := held_great v below more a hv.symm (by omega) (by omega) w
      have e : clamp (signed v below) = if below = true then -9223372036854775808 else 9223372036854775807 := by
        unfold clamp signed
        cases below
        · simp; omega
        · simp at c2 ⊢; omega
      rwa [e]

/-! ### Sums and whole numbers -/
def add160 (x y : Nat) : Nat := x + y
set_option maxHeartbeats 4000000 in
theorem sum_calls (x y : Nat) (s t : Bool) (hx : x ≤ 9223372036854775808) (hy : y ≤ 9223372036854775808) (w : World) :
    Calls Try.prog 31 #[.agg (bn x), .bool s, .agg (bn y), .bool t] w fun e w' => e = .returned (.int .i64 (clamp (signed x s + signed y t))) ∧ Below w.heap.size w w' := by
  have hz := zero_big
  have l160 : (36893488147419103232 : Nat) < 2 ^ 160 := by decide
  have hx1 : x < 2 ^ 160 := by omega
  have hy1 : y < 2 ^ 160 := by omega
  have hxy1 : x + y + 1 < 2 ^ 160 := by omega
  have hxy2 : x - y + 1 < 2 ^ 160 := by omega
  have hxy3 : y - x + 1 < 2 ^ 160 := by omega
  have HX := hid hx1
  have HY := hid hy1
  have H1 := hid hxy1
  have H2 := hid hxy2
  have H3 := hid hxy3
  clear hx1 hy1 hxy1 hxy2 hxy3 l160 hx hy
  by_cases c : s = t
  · subst c
    have e : clamp (signed x s + signed y s) = clamp (signed (x + y + (s && false).toNat) s) := by
      congr 1; unfold signed; cases s <;> simp <;> omega
    rw [e]
    clear e
    cases s
    all_goals
      go_enter Try.func31, Try.ntmps31
      go_wp2_with (first | ((with_reducible refine Arr.arm_load row40 rfl ?_); refine ⟨rfl, _, _, _, _, rfl, by (with_reducible repeat (first | assumption | (refine p1 ?_; (first | omega | (simp <;> omega))) | (refine p2 ?_ ?_; focus (first | omega | (simp <;> omega))) | refine p3 ?_ | refine p4 ?_ | apply p5 | (refine p6 ?_ ?_; focus (first | omega | (simp <;> omega))) | apply p7 | (refine p8 ?_ ?_; focus (first | omega | (simp <;> omega))) | (refine p9 (by assumption) ?_ ?_; focus (first | omega | (simp <;> omega))))), by (first | exact bn_size _ | exact big_size _ | (rw [Array.size_setIfInBounds]; exact bn_size _) | (rw [Array.size_setIfInBounds]; exact big_size _)), ?_⟩; skip) | ((with_reducible refine Arr.arm_store row40 rfl ?_); refine ⟨rfl, _, _, _, _, rfl, rfl, by (with_reducible repeat (first | assumption | (refine p1 ?_; (first | omega | (simp <;> omega))) | (refine p2 ?_ ?_; focus (first | omega | (simp <;> omega))) | refine p3 ?_ | refine p4 ?_ | apply p5 | (refine p6 ?_ ?_; focus (first | omega | (simp <;> omega))) | apply p7 | (refine p8 ?_ ?_; focus (first | omega | (simp <;> omega))) | (refine p9 (by assumption) ?_ ?_; focus (first | omega | (simp <;> omega))))), by (first | exact bn_size _ | exact big_size _ | (rw [Array.size_setIfInBounds]; exact bn_size _) | (rw [Array.size_setIfInBounds]; exact big_size _)), by (first | exact bn_size _ | exact big_size _ | (rw [Array.size_setIfInBounds]; exact bn_size _) | (rw [Array.size_setIfInBounds]; exact big_size _)), by (first | exact bn_one _ | exact big_one _), ?_⟩) | (go_at_call 36; (with_reducible refine (plus_nat _ _ _).mono ?_); rintro e w1 ⟨rfl, hb1⟩; have hz1 := hb1.size; (try simp only [World.size_alloc, World.size_setCell, World.size_drew, setRow_size, Arr.size_drewN] at hz1)) | (go_at_call 29; (with_reducible refine (held_calls _ _ _ H1.out _).mono ?_); rintro e w2 ⟨rfl, hb2⟩; have hz2 := hb2.size; (try simp only [World.size_alloc, World.size_setCell, World.size_drew, setRow_size, Arr.size_drewN] at hz2)))
      go_ret
      exact ⟨rfl, by (with_reducible repeat (first | assumption | exact Below.refl _ _ | (refine b4 ?_ ?_; focus (first | omega | (simp <;> omega))) | refine b2 ?_ | refine Below.drew ?_ | (refine b5 ?_ ?_; focus (first | omega | (simp <;> omega))) | (refine b1 ?_ ?_; focus (first | omega | (simp <;> omega))) | (refine b3 (by assumption) ?_ ?_; focus (first | omega | (simp <;> omega)))))⟩
  · by_cases l : x < y
    · have hd : x < y := l
      have HD := hid hd
      have HL := hid (Nat.le_of_lt l)
      have e : clamp (signed x s + signed y t) = clamp (signed (y - x + (t && false).toNat) t) := by
        congr 1; unfold signed; cases s <;> cases t <;> simp at c ⊢ <;> omega
      rw [e]
      clear e hd
      cases s <;> cases t
      all_goals first
        | (exact absurd rfl c)
        | (clear c
           go_enter Try.func31, Try.ntmps31
           go_wp2_with (first | ((with_reducible refine Arr.arm_load row40 rfl ?_); refine ⟨rfl, _, _, _, _, rfl, by (with_reducible repeat (first | assumption | (refine p1 ?_; (first | omega | (simp <;> omega))) | (refine p2 ?_ ?_; focus (first | omega | (simp <;> omega))) | refine p3 ?_ | refine p4 ?_ | apply p5 | (refine p6 ?_ ?_; focus (first | omega | (simp <;> omega))) | apply p7 | (refine p8 ?_ ?_; focus (first | omega | (simp <;> omega))) | (refine p9 (by assumption) ?_ ?_; focus (first | omega | (simp <;> omega))))), by (first | exact bn_size _ | exact big_size _ | (rw [Array.size_setIfInBounds]; exact bn_size _) | (rw [Array.size_setIfInBounds]; exact big_size _)), ?_⟩; skip) | ((with_reducible refine Arr.arm_store row40 rfl ?_); refine ⟨rfl, _, _, _, _, rfl, rfl, by (with_reducible repeat (first | assumption | (refine p1 ?_; (first | omega | (simp <;> omega))) | (refine p2 ?_ ?_; focus (first | omega | (simp <;> omega))) | refine p3 ?_ | refine p4 ?_ | apply p5 | (refine p6 ?_ ?_; focus (first | omega | (simp <;> omega))) | apply p7 | (refine p8 ?_ ?_; focus (first | omega | (simp <;> omega))) | (refine p9 (by assumption) ?_ ?_; focus (first | omega | (simp <;> omega))))), by (first | exact bn_size _ | exact big_size _ | (rw [Array.size_setIfInBounds]; exact bn_size _) | (rw [Array.size_setIfInBounds]; exact big_size _)), by (first | exact bn_size _ | exact big_size _ | (rw [Array.size_setIfInBounds]; exact bn_size _) | (rw [Array.size_setIfInBounds]; exact big_size _)), by (first | exact bn_one _ | exact big_one _), ?_⟩) | (go_at_call 37; (with_reducible refine (less_yes _ _ HX.out HY.out HD.out _).mono ?_); rintro e w1 ⟨rfl, hb1⟩; have hz1 := hb1.size; (try simp only [World.size_alloc, World.size_setCell, World.size_drew, setRow_size, Arr.size_drewN] at hz1)) | (go_at_call 38; (with_reducible refine (minus_nat _ _ HL.out _).mono ?_); rintro e w2 ⟨rfl, hb2⟩; have hz2 := hb2.size; (try simp only [World.size_alloc, World.size_setCell, World.size_drew, setRow_size, Arr.size_drewN] at hz2)) | (go_at_call 29; (with_reducible refine (held_calls _ _ _ H3.out _).mono ?_); rintro e w3 ⟨rfl, hb3⟩; have hz3 := hb3.size; (try simp only [World.size_alloc, World.size_setCell, World.size_drew, setRow_size, Arr.size_drewN] at hz3)))
           go_ret
           exact ⟨rfl, by (with_reducible repeat (first | assumption | exact Below.refl _ _ | (refine b4 ?_ ?_; focus (first | omega | (simp <;> omega))) | refine b2 ?_ | refine Below.drew ?_ | (refine b5 ?_ ?_; focus (first | omega | (simp <;> omega))) | (refine b1 ?_ ?_; focus (first | omega | (simp <;> omega))) | (refine b3 (by assumption) ?_ ?_; focus (first | omega | (simp <;> omega)))))⟩)
    · have hd : ¬ x < y := l
      have HD := hid hd
      have HL := hid (Nat.le_of_not_lt l)
      have e : clamp (signed x s + signed y t) = clamp (signed (x - y + (s && false).toNat) s) := by
        congr 1; unfold signed; cases s <;> cases t <;> simp at c ⊢ <;> omega
      rw [e]
      clear e hd
      cases s <;> cases t
      all_goals first
        | (exact absurd rfl c)
        | (clear c
           go_enter Try.func31, Try.ntmps31
           go_wp2_with (first | ((with_reducible refine Arr.arm_load row40 rfl ?_); refine ⟨rfl, _, _, _, _, rfl, by (with_reducible repeat (first | assumption | (refine p1 ?_; (first | omega | (simp <;> omega))) | (refine p2 ?_ ?_; focus (first | omega | (simp <;> omega))) | refine p3 ?_ | refine p4 ?_ | apply p5 | (refine p6 ?_ ?_; focus (first | omega | (simp <;> omega))) | apply p7 | (refine p8 ?_ ?_; focus (first | omega | (simp <;> omega))) | (refine p9 (by assumption) ?_ ?_; focus (first | omega | (simp <;> omega))))), by (first | exact bn_size _ | exact big_size _ | (rw [Array.size_setIfInBounds]; exact bn_size _) | (rw [Array.size_setIfInBounds]; exact big_size _)), ?_⟩; skip) | ((with_reducible refine Arr.arm_store row40 rfl ?_); refine ⟨rfl, _, _, _, _, rfl, rfl, by (with_reducible repeat (first | assumption | (refine p1 ?_; (first | omega | (simp <;> omega))) | (refine p2 ?_ ?_; focus (first | omega | (simp <;> omega))) | refine p3 ?_ | refine p4 ?_ | apply p5 | (refine p6 ?_ ?_; focus (first | omega | (simp <;> omega))) | apply p7 | (refine p8 ?_ ?_; focus (first | omega | (simp <;> omega))) | (refine p9 (by assumption) ?_ ?_; focus (first | omega | (simp <;> omega))))), by (first | exact bn_size _ | exact big_size _ | (rw [Array.size_setIfInBounds]; exact bn_size _) | (rw [Array.size_setIfInBounds]; exact big_size _)), by (first | exact bn_size _ | exact big_size _ | (rw [Array.size_setIfInBounds]; exact bn_size _) | (rw [Array.size_setIfInBounds]; exact big_size _)), by (first | exact bn_one _ | exact big_one _), ?_⟩) | (go_at_call 37; (with_reducible refine (less_no _ _ HX.out HY.out HD.out _).mono ?_); rintro e w1 ⟨rfl, hb1⟩; have hz1 := hb1.size; (try simp only [World.size_alloc, World.size_setCell, World.size_drew, setRow_size, Arr.size_drewN] at hz1)) | (go_at_call 38; (with_reducible refine (minus_nat _ _ HL.out _).mono ?_); rintro e w2 ⟨rfl, hb2⟩; have hz2 := hb2.size; (try simp only [World.size_alloc, World.size_setCell, World.size_drew, setRow_size, Arr.size_drewN] at hz2)) | (go_at_call 29; (with_reducible refine (held_calls _ _ _ H2.out _).mono ?_); rintro e w3 ⟨rfl, hb3⟩; have hz3 := hb3.size; (try simp only [World.size_alloc, World.size_setCell, World.size_drew, setRow_size, Arr.size_drewN] at hz3)))
           go_ret
           exact ⟨rfl, by (with_reducible repeat (first | assumption | exact Below.refl _ _ | (refine b4 ?_ ?_; focus (first | omega | (simp <;> omega))) | refine b2 ?_ | refine Below.drew ?_ | (refine b5 ?_ ?_; focus (first | omega | (simp <;> omega))) | (refine b1 ?_ ?_; focus (first | omega | (simp <;> omega))) | (refine b3 (by assumption) ?_ ?_; focus (first | omega | (simp <;> omega)))))⟩)

end Go.Proofs.Ytbccafpaeplabaa.Big
