/- The reference's lists of 160 bits: sums, differences, comparisons, shifts: each call answers the bits that these functions tell. -/
import Derived.Test.YtbccafpaeplabaaProg
import Derived.Test.YtbccafpaeplabaaArr
namespace Go.Proofs.Ytbccafpaeplabaa.Big
open Go.RowKit Go.Proofs.Ytbccafpaeplabaa.Arr
open Go.Proofs.Ytbccafpaeplabaa
set_option linter.unusedVariables false
set_option linter.unusedSimpArgs false
set_option maxRecDepth 100000
def big (f : Nat → Bool) : Array Value := arr 160 fun i => .bool (f i)
theorem zero_big : ∀ w, (zeroValue 40).run Try.prog w = .ok (.agg (big fun _ => false)) w := by intro w; kernel_rfl
theorem big_get (f : Nat → Bool) (i : Nat) (h : i < 160) : (big f)[i]? = some (.bool (f i)) := arr_get _ _ _ h
theorem big_size (f : Nat → Bool) : (big f).size = 160 := arr_size _ _
theorem big_one (f : Nat → Bool) : (big f).all (·.oneCell') = true := arr_one _ _ fun _ _ => rfl
theorem big_set (f : Nat → Bool) (i : Nat) (b : Bool) : (big f).setIfInBounds i (.bool b) = big (fun j => if j = i then b else f j) := by
  unfold big; rw [arr_set]; apply arr_congr; intro j _; unfold upd; by_cases h : j = i <;> simp [h]
theorem big_congr (f g : Nat → Bool) (h : ∀ i, i < 160 → f i = g i) : big f = big g := by
  unfold big; apply arr_congr; intro j hj; rw [h j hj]
theorem row40 : RowTy Try.prog 40 160 := ⟨_, Try.underlying40, rfl, by kernel_rfl⟩
attribute [irreducible] big
def carry (f g : Nat → Bool) : Nat → Bool
  | 0 => false
  | k + 1 => (f k && g k) || (carry f g k && (f k || g k))
def sumb (f g : Nat → Bool) (k : Nat) (i : Nat) : Bool := if i < k then (f i != g i) != carry f g i else false

theorem step_last (f : Nat → Bool) (h : Nat → Nat → Bool) (k : Nat) (hh : ∀ j, h (k + 1) j = if j = k then f k else h k j) (b : Bool) (hb : b = f k) (w : World) (nd : Nat) (B : Nat) (hB : B = w.heap.size) :
    ((w.alloc (.cells (big (h k)) 40)).drewN nd).setCell ⟨B, k, none⟩ (.bool b) = (w.alloc (.cells (big (h (k + 1))) 40)).drewN nd := by
  rw [setCell_last _ _ _ _ _ _ _ hB, big_set]
  congr 4; funext j; rw [hh]; subst hb; rfl
theorem step_last2 (f : Nat → Bool) (h : Nat → Nat → Bool) (k : Nat) (hh : ∀ j, h (k + 1) j = if j = k then f k else h k j) (b : Bool) (hb : b = f k) (w : World) (nd nq : Nat) (B : Nat) (hB : B = w.heap.size) :
    (((w.alloc (.cells (big (h k)) 40)).drewN nd).setCell ⟨B, k, none⟩ (.bool b)).drewN nq = (w.alloc (.cells (big (h (k + 1))) 40)).drewN (nd + nq) := by
  rw [step_last f h k hh b hb w nd B hB, World.drewN_drewN]
theorem sumb_succ (f g : Nat → Bool) (k j : Nat) : sumb f g (k + 1) j = if j = k then (f k != g k) != carry f g k else sumb f g k j := by
  unfold sumb
  by_cases e : j = k
  · subst e; simp
  · have e2 : (j < k + 1) = (j < k) := by apply propext; omega
    simp only [if_neg e, e2]
def plusB (f g : Nat → Bool) : Nat → Bool := sumb f g 160

set_option maxHeartbeats 1000000 in
theorem plus_calls (f g : Nat → Bool) (w : World) : Calls Try.prog 36 #[.agg (big f), .agg (big g)] w fun e w' => e = .returned (.agg (big (plusB f g))) ∧ Below w.heap.size w w' := by
  have hz := zero_big
  go_enter Try.func36, Try.ntmps36
  go_wp2
  go_loopw [6, 7] (fun c i wr => ∃ k : Nat, k ≤ 160 ∧ i = .int .i64 k ∧ c = .bool (carry f g k) ∧ ∃ nd, wr = ((((w.alloc (.cells (big f) 40)).alloc (.cells (big g) 40)).alloc (.cells (big fun _ => false) 40)).alloc (.cells (big (sumb f g k)) 40)).drewN nd) (fun _ i _ => 160 - (intOf i).toNat)
  case atStart => exact ⟨0, by omega, rfl, rfl, 0, rfl⟩
  case round =>
    obtain ⟨k, hk, rfl, rfl, nd, rfl⟩ := hrel
    by_cases hlt : k < 160
    · have h1 := big_get f k hlt
      have h2 := big_get g k hlt
      have h3 := big_get (sumb f g k) k hlt
      have h4 := big_size (sumb f g k)
      go_wp2
      refine Arr.region_tail 11 (by kernel_rfl) (by kernel_rfl) rfl rfl ?_; simp only [List.take_succ_cons, List.take_zero, List.drop_succ_cons, List.drop_zero]; (repeat still_step); refine wpStill_nil ?_
      go_wp2
      all_goals
        clear h1 h2 h3 h4 hz
        go_round
        case rel => exact ⟨k + 1, by omega, by go_num, by simp [carry, *], nd + 1, step_last (fun k => (f k != g k) != carry f g k) (sumb f g) k (sumb_succ f g k) _ (by simp [*]) _ _ _ (by simp)⟩
        case measure => simp [intOf]; omega
    · have : k = 160 := by omega
      subst this
      go_wp2_with (first | ((with_reducible refine Arr.arm_load row40 rfl ?_); refine ⟨rfl, _, _, _, _, rfl, by (with_reducible repeat (first | assumption | (refine p1 ?_; (first | omega | (simp <;> omega))) | (refine p2 ?_ ?_; focus (first | omega | (simp <;> omega))) | refine p3 ?_ | refine p4 ?_ | apply p5 | (refine p6 ?_ ?_; focus (first | omega | (simp <;> omega))) | apply p7 | (refine p8 ?_ ?_; focus (first | omega | (simp <;> omega))) | (refine p9 (by assumption) ?_ ?_; focus (first | omega | (simp <;> omega))))), by (first | exact bn_size _ | exact big_size _ | (rw [Array.size_setIfInBounds]; exact bn_size _) | (rw [Array.size_setIfInBounds]; exact big_size _)), ?_⟩; skip) | ((with_reducible refine Arr.arm_store row40 rfl ?_); refine ⟨rfl, _, _, _, _, rfl, rfl, by (with_reducible repeat (first | assumption | (refine p1 ?_; (first | omega | (simp <;> omega))) | (refine p2 ?_ ?_; focus (first | omega | (simp <;> omega))) | refine p3 ?_ | refine p4 ?_ | apply p5 | (refine p6 ?_ ?_; focus (first | omega | (simp <;> omega))) | apply p7 | (refine p8 ?_ ?_; focus (first | omega | (simp <;> omega))) | (refine p9 (by assumption) ?_ ?_; focus (first | omega | (simp <;> omega))))), by (first | exact bn_size _ | exact big_size _ | (rw [Array.size_setIfInBounds]; exact bn_size _) | (rw [Array.size_setIfInBounds]; exact big_size _)), by (first | exact bn_size _ | exact big_size _ | (rw [Array.size_setIfInBounds]; exact bn_size _) | (rw [Array.size_setIfInBounds]; exact big_size _)), by (first | exact bn_one _ | exact big_one _), ?_⟩))
      refine Arr.ret_row rfl row40 rfl ⟨_, _, _, _, rfl, by (with_reducible repeat (first | assumption | (refine p1 ?_; (first | omega | (simp <;> omega))) | (refine p2 ?_ ?_; focus (first | omega | (simp <;> omega))) | refine p3 ?_ | refine p4 ?_ | apply p5 | (refine p6 ?_ ?_; focus (first | omega | (simp <;> omega))) | apply p7 | (refine p8 ?_ ?_; focus (first | omega | (simp <;> omega))) | (refine p9 (by assumption) ?_ ?_; focus (first | omega | (simp <;> omega))))), by (first | exact bn_size _ | exact big_size _ | (rw [Array.size_setIfInBounds]; exact bn_size _) | (rw [Array.size_setIfInBounds]; exact big_size _)), ?_⟩
      exact ⟨rfl, by (with_reducible repeat (first | assumption | exact Below.refl _ _ | (refine b4 ?_ ?_; focus (first | omega | (simp <;> omega))) | refine b2 ?_ | refine Below.drew ?_ | (refine b5 ?_ ?_; focus (first | omega | (simp <;> omega))) | (refine b1 ?_ ?_; focus (first | omega | (simp <;> omega))) | (refine b3 (by assumption) ?_ ?_; focus (first | omega | (simp <;> omega)))))⟩

/-! ### Differences -/
def borrow (f g : Nat → Bool) : Nat → Bool
  | 0 => false
  | k + 1 => (!f k && g k) || (borrow f g k && f k == g k)
def diffb (f g : Nat → Bool) (k : Nat) (i : Nat) : Bool := if i < k then (f i != g i) != borrow f g i else false
theorem diffb_succ (f g : Nat → Bool) (k j : Nat) : diffb f g (k + 1) j = if j = k then (f k != g k) != borrow f g k else diffb f g k j := by
  unfold diffb
  by_cases e : j = k
  · subst e; simp
  · have e2 : (j < k + 1) = (j < k) := by apply propext; omega
    simp only [if_neg e, e2]
def minusB (f g : Nat → Bool) : Nat → Bool := diffb f g 160

set_option maxHeartbeats 1000000 in
theorem minus_calls (f g : Nat → Bool) (w : World) : Calls Try.prog 38 #[.agg (big f), .agg (big g)] w fun e w' => e = .returned (.agg (big (minusB f g))) ∧ Below w.heap.size w w' := by
  have hz := zero_big
  go_enter Try.func38, Try.ntmps38
  go_wp2
  go_loopw [6, 7] (fun c i wr => ∃ k : Nat, k ≤ 160 ∧ i = .int .i64 k ∧ c = .bool (borrow f g k) ∧ ∃ nd, wr = ((((w.alloc (.cells (big f) 40)).alloc (.cells (big g) 40)).alloc (.cells (big fun _ => false) 40)).alloc (.cells (big (diffb f g k)) 40)).drewN nd) (fun _ i _ => 160 - (intOf i).toNat)
  case atStart => exact ⟨0, by omega, rfl, rfl, 0, rfl⟩
  case round =>
    obtain ⟨k, hk, rfl, rfl, nd, rfl⟩ := hrel
    by_cases hlt : k < 160
    · have h1 := big_get f k hlt
      have h2 := big_get g k hlt
      have h3 := big_get (diffb f g k) k hlt
      have h4 := big_size (diffb f g k)
      cases hf : f k <;> cases hg : g k <;> cases hb : borrow f g k
      all_goals
        rw [hf] at h1
        rw [hg] at h2
        go_wp2
        refine Arr.region_tail 11 (by kernel_rfl) (by kernel_rfl) rfl rfl ?_; simp only [List.take_succ_cons, List.take_zero, List.drop_succ_cons, List.drop_zero]; (repeat still_step); refine wpStill_nil ?_
        go_wp2
        go_quiet (fail)
        go_wp2
        clear h1 h2 h3 h4 hz
        go_round
        case rel => exact ⟨k + 1, by omega, by go_num, by simp [borrow, *], _, step_last2 (fun k => (f k != g k) != borrow f g k) (diffb f g) k (diffb_succ f g k) _ (by simp [*]) _ _ _ _ (by simp)⟩
        case measure => simp [intOf]; omega
    · have : k = 160 := by omega
      subst this
      go_wp2_with (first | ((with_reducible refine Arr.arm_load row40 rfl ?_); refine ⟨rfl, _, _, _, _, rfl, by (with_reducible repeat (first | assumption | (refine p1 ?_; (first | omega | (simp <;> omega))) | (refine p2 ?_ ?_; focus (first | omega | (simp <;> omega))) | refine p3 ?_ | refine p4 ?_ | apply p5 | (refine p6 ?_ ?_; focus (first | omega | (simp <;> omega))) | apply p7 | (refine p8 ?_ ?_; focus (first | omega | (simp <;> omega))) | (refine p9 (by assumption) ?_ ?_; focus (first | omega | (simp <;> omega))))), by (first | exact bn_size _ | exact big_size _ | (rw [Array.size_setIfInBounds]; exact bn_size _) | (rw [Array.size_setIfInBounds]; exact big_size _)), ?_⟩; skip) | ((with_reducible refine Arr.arm_store row40 rfl ?_); refine ⟨rfl, _, _, _, _, rfl, rfl, by (with_reducible repeat (first | assumption | (refine p1 ?_; (first | omega | (simp <;> omega))) | (refine p2 ?_ ?_; focus (first | omega | (simp <;> omega))) | refine p3 ?_ | refine p4 ?_ | apply p5 | (refine p6 ?_ ?_; focus (first | omega | (simp <;> omega))) | apply p7 | (refine p8 ?_ ?_; focus (first | omega | (simp <;> omega))) | (refine p9 (by assumption) ?_ ?_; focus (first | omega | (simp <;> omega))))), by (first | exact bn_size _ | exact big_size _ | (rw [Array.size_setIfInBounds]; exact bn_size _) | (rw [Array.size_setIfInBounds]; exact big_size _)), by (first | exact bn_size _ | exact big_size _ | (rw [Array.size_setIfInBounds]; exact bn_size _) | (rw [Array.size_setIfInBounds]; exact big_size _)), by (first | exact bn_one _ | exact big_one _), ?_⟩))
      refine Arr.ret_row rfl row40 rfl ⟨_, _, _, _, rfl, by (with_reducible repeat (first | assumption | (refine p1 ?_; (first | omega | (simp <;> omega))) | (refine p2 ?_ ?_; focus (first | omega | (simp <;> omega))) | refine p3 ?_ | refine p4 ?_ | apply p5 | (refine p6 ?_ ?_; focus (first | omega | (simp <;> omega))) | apply p7 | (refine p8 ?_ ?_; focus (first | omega | (simp <;> omega))) | (refine p9 (by assumption) ?_ ?_; focus (first | omega | (simp <;> omega))))), by (first | exact bn_size _ | exact big_size _ | (rw [Array.size_setIfInBounds]; exact bn_size _) | (rw [Array.size_setIfInBounds]; exact big_size _)), ?_⟩
      exact ⟨rfl, by (with_reducible repeat (first | assumption | exact Below.refl _ _ | (refine b4 ?_ ?_; focus (first | omega | (simp <;> omega))) | refine b2 ?_ | refine Below.drew ?_ | (refine b5 ?_ ?_; focus (first | omega | (simp <;> omega))) | (refine b1 ?_ ?_; focus (first | omega | (simp <;> omega))) | (refine b3 (by assumption) ?_ ?_; focus (first | omega | (simp <;> omega)))))⟩

/-! ### Comparison -/
def lessB (f g : Nat → Bool) : Nat → Bool
  | 0 => false
  | k + 1 => if f k != g k then g k else lessB f g k

set_option maxHeartbeats 1000000 in
theorem less_calls (f g : Nat → Bool) (w : World) : Calls Try.prog 37 #[.agg (big f), .agg (big g)] w fun e w' => e = .returned (.bool (lessB f g 160)) ∧ Below w.heap.size w w' := by
  go_enter Try.func37, Try.ntmps37
  go_wp2
  go_loopw [4, 5] (fun r i wr => ∃ k : Nat, k ≤ 160 ∧ r = .bool false ∧ i = .int .i64 ((k : Int) - 1) ∧ lessB f g 160 = lessB f g k ∧ ∃ nd, wr = (((w.alloc (.cells (big f) 40)).alloc (.cells (big g) 40))).drewN nd) (fun _ i _ => (intOf i + 1).toNat)
  case atStart => exact ⟨160, by omega, rfl, rfl, rfl, 0, rfl⟩
  case round =>
    obtain ⟨k, hk, rfl, rfl, he, nd, rfl⟩ := hrel
    have HE := hid he
    clear he
    by_cases hlt : 0 < k
    · obtain ⟨k, rfl⟩ : ∃ j, k = j + 1 := ⟨k - 1, by omega⟩
      have e1 : ((k + 1 : Nat) : Int) - 1 = (k : Int) := by omega
      rw [e1]
      clear e1
      have h1 := big_get f k (by omega)
      have h2 := big_get g k (by omega)
      have h0 : (0 : Int) ≤ (k : Int) := by omega
      cases hf : f k <;> cases hg : g k
      all_goals
        rw [hf] at h1
        rw [hg] at h2
        have hl : lessB f g (k + 1) = if f k != g k then g k else lessB f g k := rfl
        rw [hf, hg] at hl
        have HL := hid hl
        clear hl hf hg
        go_wp2
        go_quiet (fail)
        go_wp2
        first
          | (go_ret; exact ⟨by rw [HE.out, HL.out]; rfl, by (with_reducible repeat (first | assumption | exact Below.refl _ _ | (refine b4 ?_ ?_; focus (first | omega | (simp <;> omega))) | refine b2 ?_ | refine Below.drew ?_ | (refine b5 ?_ ?_; focus (first | omega | (simp <;> omega))) | (refine b1 ?_ ?_; focus (first | omega | (simp <;> omega))) | (refine b3 (by assumption) ?_ ?_; focus (first | omega | (simp <;> omega)))))⟩)
          | (go_round
             case rel => exact ⟨k, by omega, rfl, rfl, by rw [HE.out, HL.out]; rfl, _, rfl⟩
             case measure => simp [intOf])
    · have : k = 0 := by omega
      subst this
      go_wp2
      go_ret
      exact ⟨by rw [HE.out]; rfl, by (with_reducible repeat (first | assumption | exact Below.refl _ _ | (refine b4 ?_ ?_; focus (first | omega | (simp <;> omega))) | refine b2 ?_ | refine Below.drew ?_ | (refine b5 ?_ ?_; focus (first | omega | (simp <;> omega))) | (refine b1 ?_ ?_; focus (first | omega | (simp <;> omega))) | (refine b3 (by assumption) ?_ ?_; focus (first | omega | (simp <;> omega)))))⟩

/-! ### Shifts -/
def upB (f : Nat → Bool) (n k : Nat) (i : Nat) : Bool := if n ≤ i ∧ i < k then f (i - n) else false
theorem upB_succ (f : Nat → Bool) (n k : Nat) (hk : n ≤ k) (j : Nat) : upB f n (k + 1) j = if j = k then f (k - n) else upB f n k j := by
  unfold upB
  by_cases e : j = k
  · subst e; simp [hk]
  · have e2 : (n ≤ j ∧ j < k + 1) = (n ≤ j ∧ j < k) := by apply propext; omega
    simp only [if_neg e, e2]

set_option maxHeartbeats 1000000 in
theorem up_calls (f : Nat → Bool) (n : Nat) (hn : n ≤ 160) (w : World) : Calls Try.prog 30 #[.agg (big f), .int .i64 n] w fun e w' => e = .returned (.agg (big (upB f n 160))) ∧ Below w.heap.size w w' := by
  have hz := zero_big
  go_enter Try.func30, Try.ntmps30
  go_wp2
  go_loopw [6] (fun i wr => ∃ k : Nat, n ≤ k ∧ k ≤ 160 ∧ i = .int .i64 k ∧ ∃ nd, wr = (((w.alloc (.cells (big f) 40)).alloc (.cells (big fun _ => false) 40)).alloc (.cells (big (upB f n k)) 40)).drewN nd) (fun i _ => 160 - (intOf i).toNat)
  case atStart =>
    refine ⟨n, by omega, hn, rfl, 0, ?_⟩
    have e : upB f n n = fun _ => false := by funext i; unfold upB; rw [if_neg (by omega)]
    rw [e]; rfl
  case round =>
    obtain ⟨k, hnk, hk, rfl, nd, rfl⟩ := hrel
    by_cases hlt : k < 160
    · have h1 := big_get f (k - n) (by omega)
      have h3 := big_get (upB f n k) k hlt
      have h4 := big_size (upB f n k)
      have e1 : ((k : Int) - (n : Int)).toNat = k - n := by omega
      have e2 : (0 : Int) ≤ (k : Int) - n := by omega
      go_wp2
      clear h1 h3 h4 hz
      go_round
      case rel => exact ⟨k + 1, by omega, by omega, by go_num, _, step_last (fun k => f (k - n)) (upB f n) k (upB_succ f n k hnk) _ rfl _ _ _ (by simp)⟩
      case measure => simp [intOf]; omega
    · have : k = 160 := by omega
      subst this
      go_wp2_with (first | ((with_reducible refine Arr.arm_load row40 rfl ?_); refine ⟨rfl, _, _, _, _, rfl, by (with_reducible repeat (first | assumption | (refine p1 ?_; (first | omega | (simp <;> omega))) | (refine p2 ?_ ?_; focus (first | omega | (simp <;> omega))) | refine p3 ?_ | refine p4 ?_ | apply p5 | (refine p6 ?_ ?_; focus (first | omega | (simp <;> omega))) | apply p7 | (refine p8 ?_ ?_; focus (first | omega | (simp <;> omega))) | (refine p9 (by assumption) ?_ ?_; focus (first | omega | (simp <;> omega))))), by (first | exact bn_size _ | exact big_size _ | (rw [Array.size_setIfInBounds]; exact bn_size _) | (rw [Array.size_setIfInBounds]; exact big_size _)), ?_⟩; skip) | ((with_reducible refine Arr.arm_store row40 rfl ?_); refine ⟨rfl, _, _, _, _, rfl, rfl, by (with_reducible repeat (first | assumption | (refine p1 ?_; (first | omega | (simp <;> omega))) | (refine p2 ?_ ?_; focus (first | omega | (simp <;> omega))) | refine p3 ?_ | refine p4 ?_ | apply p5 | (refine p6 ?_ ?_; focus (first | omega | (simp <;> omega))) | apply p7 | (refine p8 ?_ ?_; focus (first | omega | (simp <;> omega))) | (refine p9 (by assumption) ?_ ?_; focus (first | omega | (simp <;> omega))))), by (first | exact bn_size _ | exact big_size _ | (rw [Array.size_setIfInBounds]; exact bn_size _) | (rw [Array.size_setIfInBounds]; exact big_size _)), by (first | exact bn_size _ | exact big_size _ | (rw [Array.size_setIfInBounds]; exact bn_size _) | (rw [Array.size_setIfInBounds]; exact big_size _)), by (first | exact bn_one _ | exact big_one _), ?_⟩))
      refine Arr.ret_row rfl row40 rfl ⟨_, _, _, _, rfl, by (with_reducible repeat (first | assumption | (refine p1 ?_; (first | omega | (simp <;> omega))) | (refine p2 ?_ ?_; focus (first | omega | (simp <;> omega))) | refine p3 ?_ | refine p4 ?_ | apply p5 | (refine p6 ?_ ?_; focus (first | omega | (simp <;> omega))) | apply p7 | (refine p8 ?_ ?_; focus (first | omega | (simp <;> omega))) | (refine p9 (by assumption) ?_ ?_; focus (first | omega | (simp <;> omega))))), by (first | exact bn_size _ | exact big_size _ | (rw [Array.size_setIfInBounds]; exact bn_size _) | (rw [Array.size_setIfInBounds]; exact big_size _)), ?_⟩
      exact ⟨rfl, by (with_reducible repeat (first | assumption | exact Below.refl _ _ | (refine b4 ?_ ?_; focus (first | omega | (simp <;> omega))) | refine b2 ?_ | refine Below.drew ?_ | (refine b5 ?_ ?_; focus (first | omega | (simp <;> omega))) | (refine b1 ?_ ?_; focus (first | omega | (simp <;> omega))) | (refine b3 (by assumption) ?_ ?_; focus (first | omega | (simp <;> omega)))))⟩

end Go.Proofs.Ytbccafpaeplabaa.Big
