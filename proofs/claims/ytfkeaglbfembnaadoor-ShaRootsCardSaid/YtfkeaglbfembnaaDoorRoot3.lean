/- The reference's comparing of two numbers of twelve digits, and its root. -/
import Derived.WalkKit
import Derived.StillTactics
import Derived.Outline
import Derived.Test.YtfkeaglbfembnaaDoorRoot2
namespace Go.Proofs.YtfkeaglbfembnaaDoor.Root3
open Go Go.RowKit Go.Proofs.YtfkeaglbfembnaaDoor.Arr Go.Proofs.YtfkeaglbfembnaaDoor.Sha2 Go.Proofs.YtfkeaglbfembnaaDoor.Root1 Go.Proofs.YtfkeaglbfembnaaDoor.Root2
set_option maxRecDepth 100000
set_option linter.unusedVariables false
set_option linter.unusedSimpArgs false
theorem div_split (X t : Nat) : X / 65536 ^ t = X / 65536 ^ (t + 1) * 65536 + dgt X t := by
  unfold dgt
  rw [div_pow X t 1, Nat.pow_one]; omega
theorem lt_of_div (X Y t : Nat) (h : X / 65536 ^ t < Y / 65536 ^ t) : X < Y := by
  apply Nat.lt_of_not_le
  intro hle
  have := Nat.div_le_div_right (c := 65536 ^ t) hle
  omega
/-- Is X smaller than Y? -/
def ltB (X Y : Nat) : Bool := decide (X < Y)
theorem less_at (X Y t a b : Nat) (h : X / 65536 ^ (t + 1) = Y / 65536 ^ (t + 1)) (ha : a = dgt X t) (hb : b = dgt Y t) (hn : a ≠ b) : decide (a < b) = ltB X Y := by
  unfold ltB
  subst ha; subst hb
  have hx := div_split X t
  have hy := div_split Y t
  rw [← h] at hy
  rcases Nat.lt_or_ge (dgt X t) (dgt Y t) with hl | hl
  · have h1 : X / 65536 ^ t < Y / 65536 ^ t := by omega
    have h2 := lt_of_div X Y t h1
    rw [decide_eq_true h2, decide_eq_true_iff]; omega
  · have h1 : Y / 65536 ^ t < X / 65536 ^ t := by omega
    have h2 := lt_of_div Y X t h1
    rw [decide_eq_false (by omega : ¬ X < Y), decide_eq_false_iff_not]; omega
theorem less_on (X Y t a b : Nat) (h : X / 65536 ^ (t + 1) = Y / 65536 ^ (t + 1)) (ha : a = dgt X t) (hb : b = dgt Y t) (he : a = b) : X / 65536 ^ t = Y / 65536 ^ t := by
  have hx := div_split X t
  have hy := div_split Y t
  rw [hx, hy, h, ← ha, ← hb, he]
theorem less_end (X Y : Nat) (h : X / 65536 ^ 0 = Y / 65536 ^ 0) : ltB X Y = false := by
  unfold ltB
  rw [Nat.pow_zero, Nat.div_one, Nat.div_one] at h
  subst h
  exact decide_eq_false (Nat.lt_irrefl _)
attribute [irreducible] ltB
set_option maxHeartbeats 4000000 in
theorem c_less (X Y : Nat) (hX : X < 65536 ^ 12) (hY : Y < 65536 ^ 12) (w : World) :
    Calls Tryd.prog 59 #[.agg (drow (dgt X)), .agg (drow (dgt Y))] w fun e w' => e = .returned (.bool (ltB X Y)) ∧ Below w.heap.size w w' := by
  have HX := hid hX
  have HY := hid hY
  clear hX hY
  go_enter Tryd.func59, Tryd.ntmps59
  go_wp2_with fail
  go_loopg [5] 12 (fun k i wr => i = .int .i64 ((k : Int) - 1) ∧ k ≤ 12 ∧ Hid (X / 65536 ^ k = Y / 65536 ^ k) ∧ wr.heap[w.heap.size]? = some (.cells (drow (dgt X)) 88 (0, 0)) ∧ wr.heap[w.heap.size + 1]? = some (.cells (drow (dgt Y)) 88 (0, 0)) ∧ Below w.heap.size w wr)
  case atStart => exact ⟨rfl, by omega, by show _ = _; rw [Nat.div_eq_of_lt HX.out, Nat.div_eq_of_lt HY.out], by (with_reducible repeat (first | assumption | (refine p1 ?_; (first | omega | (simp <;> omega))) | (refine p2 ?_ ?_; focus (first | omega | (simp <;> omega))) | refine p3 ?_ | refine p4 ?_ | apply p5 | (refine p6 ?_ ?_; focus (first | omega | (simp <;> omega))) | apply p7 | (refine p8 ?_ ?_; focus (first | omega | (simp <;> omega))) | (refine p9 (by assumption) ?_ ?_; focus (first | omega | (simp <;> omega))) | (refine p10 (by assumption) ?_ ?_; focus (first | omega | (simp <;> omega))))), by (with_reducible repeat (first | assumption | (refine p1 ?_; (first | omega | (simp <;> omega))) | (refine p2 ?_ ?_; focus (first | omega | (simp <;> omega))) | refine p3 ?_ | refine p4 ?_ | apply p5 | (refine p6 ?_ ?_; focus (first | omega | (simp <;> omega))) | apply p7 | (refine p8 ?_ ?_; focus (first | omega | (simp <;> omega))) | (refine p9 (by assumption) ?_ ?_; focus (first | omega | (simp <;> omega))) | (refine p10 (by assumption) ?_ ?_; focus (first | omega | (simp <;> omega))))), by (with_reducible repeat (first | assumption | exact Below.refl _ _ | (refine b4 ?_ ?_; focus (first | omega | (simp <;> omega))) | refine b2 ?_ | refine Below.drew ?_ | (refine b5 ?_ ?_; focus (first | omega | (simp <;> omega))) | (refine b1 ?_ ?_; focus (first | omega | (simp <;> omega))) | (refine b3 (by assumption) ?_ ?_; focus (first | omega | (simp <;> omega))) | (refine b6 (by assumption) ?_ ?_; focus (first | omega | (simp <;> omega)))))⟩
  case round =>
    obtain ⟨rfl, hk, HE, g0, g1, hB⟩ := hrel
    rcases gk with _ | t
    · have l1 : decide ((0 : Int) ≤ ((0 : Nat) : Int) - 1) = false := by decide
      go_wp2_with fail
      go_ret
      exact ⟨by rw [less_end X Y HE.out]; rfl, hB⟩
    · obtain ⟨a, ha⟩ : ∃ a, a = dgt X t := ⟨_, rfl⟩
      obtain ⟨b, hb⟩ : ∃ b, b = dgt Y t := ⟨_, rfl⟩
      have c0 := cell_of g0 (drow_get (dgt X) t (by omega))
      have c1 := cell_of g1 (drow_get (dgt Y) t (by omega))
      rw [← ha] at c0
      rw [← hb] at c1
      have HA := hid ha
      have HBB := hid hb
      clear ha hb
      have e1 : ((t + 1 : Nat) : Int) - 1 = (t : Int) := by omega
      rw [e1]
      have l1 : (0 : Int) ≤ (t : Int) := by omega
      have l2 : (t : Int) < 12 := by omega
      by_cases hab : a = b
      · have l3 : ((a : Int) != (b : Int)) = false := by simp [hab]
        go_wp2_with fail
        go_quiet (fail)
        go_wp2_with fail
        go_roundg t
        case measure => omega
        case rel => exact ⟨by go_num, by omega, less_on X Y t a b HE.out HA.out HBB.out hab, by (with_reducible repeat (first | assumption | (refine p1 ?_; (first | omega | (simp <;> omega))) | (refine p2 ?_ ?_; focus (first | omega | (simp <;> omega))) | refine p3 ?_ | refine p4 ?_ | apply p5 | (refine p6 ?_ ?_; focus (first | omega | (simp <;> omega))) | apply p7 | (refine p8 ?_ ?_; focus (first | omega | (simp <;> omega))) | (refine p9 (by assumption) ?_ ?_; focus (first | omega | (simp <;> omega))) | (refine p10 (by assumption) ?_ ?_; focus (first | omega | (simp <;> omega))))), by (with_reducible repeat (first | assumption | (refine p1 ?_; (first | omega | (simp <;> omega))) | (refine p2 ?_ ?_; focus (first | omega | (simp <;> omega))) | refine p3 ?_ | refine p4 ?_ | apply p5 | (refine p6 ?_ ?_; focus (first | omega | (simp <;> omega))) | apply p7 | (refine p8 ?_ ?_; focus (first | omega | (simp <;> omega))) | (refine p9 (by assumption) ?_ ?_; focus (first | omega | (simp <;> omega))) | (refine p10 (by assumption) ?_ ?_; focus (first | omega | (simp <;> omega))))), by (with_reducible repeat (first | assumption | exact Below.refl _ _ | (refine b4 ?_ ?_; focus (first | omega | (simp <;> omega))) | refine b2 ?_ | refine Below.drew ?_ | (refine b5 ?_ ?_; focus (first | omega | (simp <;> omega))) | (refine b1 ?_ ?_; focus (first | omega | (simp <;> omega))) | (refine b3 (by assumption) ?_ ?_; focus (first | omega | (simp <;> omega))) | (refine b6 (by assumption) ?_ ?_; focus (first | omega | (simp <;> omega)))))⟩
      · have l3 : ((a : Int) != (b : Int)) = true := by rw [bne_iff_ne]; omega
        go_wp2_with fail
        go_quiet (fail)
        go_wp2_with fail
        go_quiet (fail)
        go_wp2_with fail
        go_ret
        exact ⟨by rw [← less_at X Y t a b HE.out HA.out HBB.out hab]; rfl, by (with_reducible repeat (first | assumption | exact Below.refl _ _ | (refine b4 ?_ ?_; focus (first | omega | (simp <;> omega))) | refine b2 ?_ | refine Below.drew ?_ | (refine b5 ?_ ?_; focus (first | omega | (simp <;> omega))) | (refine b1 ?_ ?_; focus (first | omega | (simp <;> omega))) | (refine b3 (by assumption) ?_ ?_; focus (first | omega | (simp <;> omega))) | (refine b6 (by assumption) ?_ ?_; focus (first | omega | (simp <;> omega)))))⟩
/-! ### The root -/
theorem drow_put (p i : Nat) (hp : p < 65536) : (drow (dgt 0)).setIfInBounds i (.int .u64 (p : Nat)) = drow (dgt (p * 65536 ^ i)) := by
  rw [drow_set]; apply drow_congr; intro j _
  show (if j = i then p else dgt 0 j) = dgt (p * 65536 ^ i) j
  unfold dgt
  by_cases h : j = i
  · subst h; rw [if_pos rfl, Nat.mul_div_cancel _ (Nat.pow_pos (by decide)), Nat.mod_eq_of_lt hp]
  · rw [if_neg h, Nat.zero_div, Nat.zero_mod]
    rcases Nat.lt_or_ge j i with hl | hl
    · obtain ⟨d, rfl⟩ : ∃ d, i = j + (d + 1) := ⟨i - j - 1, by omega⟩
      rw [show p * 65536 ^ (j + (d + 1)) = p * 65536 ^ d * 65536 * 65536 ^ j by rw [Nat.pow_add, Nat.pow_succ, Nat.mul_comm (65536 ^ j)]; simp only [Nat.mul_assoc],
        Nat.mul_div_cancel _ (Nat.pow_pos (by decide)), Nat.mul_mod_left]
    · obtain ⟨d, rfl⟩ : ∃ d, j = i + (d + 1) := ⟨j - i - 1, by omega⟩
      rw [div_pow, Nat.mul_div_cancel _ (Nat.pow_pos (by decide)), Nat.div_eq_of_lt (Nat.lt_of_lt_of_le hp ?_)]
      rw [Nat.pow_succ]
      exact Nat.le_mul_of_pos_left _ (Nat.pow_pos (by decide))
theorem drow_three (T : Nat) (hT : T < 65536 ^ 3) : drow (fun i => if i = 0 then T % 65536 else if i = 1 then T / 65536 % 65536 else if i = 2 then T / 65536 / 65536 else 0) = drow (dgt T) := by
  apply drow_congr; intro i hi
  unfold dgt
  have h2 : T < 281474976710656 := hT
  match i with
  | 0 => rw [Nat.pow_zero, Nat.div_one]; rfl
  | 1 => rw [Nat.pow_one]; rfl
  | 2 => show T / 65536 / 65536 = _; rw [show 65536 ^ 2 = 65536 * 65536 from rfl, ← Nat.div_div_eq_div_mul]; omega
  | n + 3 =>
    rw [if_neg (by omega), if_neg (by omega), if_neg (by omega), Nat.div_eq_of_lt (Nat.lt_of_lt_of_le hT ?_)]
    exact Nat.pow_le_pow_right (by decide) (by omega)
/-- The power that the reference compares. -/
def powN (k T : Nat) : Nat := if k = 3 then T * T * T else T * T
theorem powN_mono (k a b : Nat) (h : a ≤ b) : powN k a ≤ powN k b := by
  unfold powN
  have h2 := Nat.mul_le_mul h h
  by_cases e : k = 3
  · rw [if_pos e, if_pos e]; exact Nat.mul_le_mul h2 h
  · rw [if_neg e, if_neg e]; exact h2
/-- R is the root: its power is at most W, the next one's is more. -/
def IsRoot (k W R : Nat) : Prop := powN k R ≤ W ∧ W < powN k (R + 1) ∧ R < 2 ^ 41
theorem root_iff {k W R : Nat} (h : IsRoot k W R) (T : Nat) : W < powN k T ↔ R < T := by
  constructor
  · intro h1
    apply Nat.lt_of_not_le
    intro hle
    have := powN_mono k _ _ hle
    have := h.1
    omega
  · intro h1
    exact Nat.lt_of_lt_of_le h.2.1 (powN_mono k _ _ h1)
/-- The root's upper bits. -/
def upB (R n : Nat) : Nat := R / 2 ^ n * 2 ^ n
theorem upB_le (R n : Nat) : upB R n ≤ R := Nat.div_mul_le_self _ _
theorem upB_step (R n : Nat) : upB R n = if R < upB R (n + 1) + 2 ^ n then upB R (n + 1) else upB R (n + 1) + 2 ^ n := by
  unfold upB
  have h0 : 0 < 2 ^ n := Nat.pow_pos (by decide)
  obtain ⟨q, hq⟩ : ∃ q, q = R / 2 ^ n := ⟨_, rfl⟩
  have e1 : R / 2 ^ (n + 1) = q / 2 := by rw [Nat.pow_succ, ← Nat.div_div_eq_div_mul, hq]
  rw [e1, ← hq]
  have e2 : q / 2 * 2 ^ (n + 1) = (q / 2 * 2) * 2 ^ n := by rw [Nat.pow_succ, Nat.mul_comm (2 ^ n), Nat.mul_assoc]
  rw [e2]
  have e3 : (q / 2 * 2) * 2 ^ n + 2 ^ n = (q / 2 * 2 + 1) * 2 ^ n := by rw [Nat.add_mul, Nat.one_mul]
  rw [e3]
  have hlt : R < (q / 2 * 2 + 1) * 2 ^ n ↔ q < q / 2 * 2 + 1 := by rw [hq, Nat.div_lt_iff_lt_mul h0]
  rcases Nat.lt_or_ge q (q / 2 * 2 + 1) with h | h
  · rw [if_pos (hlt.2 h), show q = q / 2 * 2 by omega, show q / 2 * 2 / 2 * 2 = q / 2 * 2 by omega]
  · rw [if_neg (fun hh => absurd (hlt.1 hh) (by omega))]
    rw [show q / 2 * 2 + 1 = q by omega]
theorem upB_top (R : Nat) (h : R < 2 ^ 41) : upB R 41 = 0 := by unfold upB; rw [Nat.div_eq_of_lt h, Nat.zero_mul]
theorem upB_zero (R : Nat) : upB R 0 = R := by unfold upB; rw [Nat.pow_zero, Nat.div_one, Nat.mul_one]
end Go.Proofs.YtfkeaglbfembnaaDoor.Root3
