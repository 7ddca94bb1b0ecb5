/- Whole numbers held at the ends of 64 bits. -/
namespace Go.Proofs.Ytbccafpaeplabaa.Val
/-- A whole number, held at the ends of 64 bits. -/
def clamp (v : Int) : Int := if v < -9223372036854775808 then -9223372036854775808 else if v > 9223372036854775807 then 9223372036854775807 else v
/-- The number of a size with a sign. -/
def signed (a : Nat) (below : Bool) : Int := if below then -(a : Int) else a
theorem clamp_range (v : Int) : -9223372036854775808 ≤ clamp v ∧ clamp v ≤ 9223372036854775807 := by unfold clamp; split <;> (try split) <;> omega
theorem clamp_in (v : Int) (h : -9223372036854775808 ≤ v ∧ v ≤ 9223372036854775807) : clamp v = v := by unfold clamp; rw [if_neg (by omega), if_neg (by omega)]
theorem clamp_mono (a b : Int) (h : a ≤ b) : clamp a ≤ clamp b := by unfold clamp; split <;> split <;> (try split) <;> (try split) <;> omega
theorem signed_abs (n : Int) : signed n.natAbs (decide (n < 0)) = n := by
  unfold signed
  by_cases h : n < 0
  · rw [if_pos (by simpa using h)]; omega
  · rw [if_neg (by simpa using h)]; omega
/-- The size of a quotient by a number above 0, rounded down: of a number below 0 one more where something is left. -/
theorem signed_div (p c : Nat) (hc : 0 < c) (below : Bool) : signed (p / c + (below && (decide (p % c ≠ 0))).toNat) below = signed p below / (c : Int) := by
  unfold signed
  cases below
  · simp
  · simp only [Bool.true_and, if_true]
    have hm := Nat.div_add_mod p c
    have hl := Nat.mod_lt p hc
    generalize p / c = q at *
    generalize p % c = r at *
    have e : -(p : Int) = -(r : Int) + (c : Int) * (-(q : Int)) := by
      have : (p : Int) = (c : Int) * q + r := by exact_mod_cast hm.symm
      rw [this, Int.mul_neg]; omega
    rw [e, Int.add_mul_ediv_left _ _ (by omega)]
    by_cases h0 : r = 0
    · subst h0; simp
    · simp only [h0, ne_eq, not_false_eq_true, decide_true, Bool.toNat_true]
      have : -(r : Int) / (c : Int) = -1 := by
        rw [Int.ediv_eq_iff_of_pos (by omega)] <;> omega
      rw [this]; omega
end Go.Proofs.Ytbccafpaeplabaa.Val
