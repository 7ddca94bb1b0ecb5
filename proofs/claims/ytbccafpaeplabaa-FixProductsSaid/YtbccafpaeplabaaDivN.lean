/- The long division of two words by one: plain laws of the digits. -/
namespace Go.Proofs.Ytbccafpaeplabaa.DivN
set_option linter.unusedVariables false
/-- A guess q of a digit of (u · 2^32 + v) / (A · 2^32 + b), and what is left of u. -/
structure Dg (A b u v q r : Nat) : Prop where
  sum : q * A + r = u
  lo : (u * 4294967296 + v) / (A * 4294967296 + b) ≤ q
  hi : q ≤ 4294967297
  rb : r < 4294967296

theorem fits (A b u v q r : Nat) (hs : q * A + r = u) (hA : 0 < A) : (q ≤ (u * 4294967296 + v) / (A * 4294967296 + b)) ↔ q * b ≤ r * 4294967296 + v := by
  rw [Nat.le_div_iff_mul_le (by omega), ← hs]
  have e : q * (A * 4294967296 + b) = q * A * 4294967296 + q * b := by rw [Nat.mul_add, Nat.mul_assoc]
  rw [e]
  generalize q * A = x
  generalize q * b = y
  omega

theorem dg_init (A b u v : Nat) (hA : 2147483648 ≤ A) (hA2 : A < 4294967296) (hb : b < 4294967296) (hv : v < 4294967296) (hu : u < A * 4294967296 + b) : Dg A b u v (u / A) (u % A) := by
  have hm := Nat.mod_lt u (show 0 < A by omega)
  have hd := Nat.div_add_mod u A
  refine ⟨by rw [Nat.mul_comm]; exact hd, ?_, ?_, by omega⟩
  · generalize hq : u / A = q at *
    generalize u % A = r at *
    apply Nat.le_of_lt_succ
    rw [Nat.div_lt_iff_lt_mul (by omega), ← hd]
    have e : (q + 1) * (A * 4294967296 + b) = A * q * 4294967296 + A * 4294967296 + (q + 1) * b := by
      rw [Nat.mul_add, Nat.add_mul, Nat.mul_comm q, ← Nat.mul_assoc]
      grind
    show _ < (q + 1) * (A * 4294967296 + b)
    rw [e]
    generalize A * q = x at *
    generalize (q + 1) * b = y
    omega
  · apply Nat.le_of_lt_succ
    rw [Nat.div_lt_iff_lt_mul (by omega)]
    show u < 4294967298 * A
    omega

theorem dg_end {A b u v q r : Nat} (h : Dg A b u v q r) (hA : 0 < A) (c : ¬ 4294967296 * r + v < q * b) : q = (u * 4294967296 + v) / (A * 4294967296 + b) := by
  have := (fits A b u v q r h.sum hA).2 (by rw [Nat.mul_comm r]; omega)
  have := h.lo
  omega
theorem dg_step {A b u v q r : Nat} (h : Dg A b u v q r) (hA : 2147483648 ≤ A) (hu : u < A * 4294967296 + b) (hb : b < 4294967296) (hv : v < 4294967296) (c : 4294967296 ≤ q ∨ 4294967296 * r + v < q * b) :
    1 ≤ q ∧ (u * 4294967296 + v) / (A * 4294967296 + b) ≤ q - 1 ∧ (q - 1) * A + (r + A) = u := by
  have hQ : (u * 4294967296 + v) / (A * 4294967296 + b) < 4294967296 := by
    rw [Nat.div_lt_iff_lt_mul (by omega)]; omega
  have h1 : (u * 4294967296 + v) / (A * 4294967296 + b) < q := by
    rcases c with c | c
    · omega
    · have := (fits A b u v q r h.sum (by omega))
      rcases Nat.lt_or_ge ((u * 4294967296 + v) / (A * 4294967296 + b)) q with l | l
      · exact l
      · have := this.1 l; rw [Nat.mul_comm r] at this; omega
  have hq0 : 0 < q := Nat.lt_of_le_of_lt (Nat.zero_le _) h1
  obtain ⟨p, rfl⟩ : ∃ p, q = p + 1 := ⟨q - 1, by omega⟩
  refine ⟨by omega, ?_, ?_⟩
  · show _ ≤ p
    omega
  have hs := h.sum
  rw [Nat.add_mul, Nat.one_mul] at hs
  show p * A + _ = _
  omega
theorem dg_break {A b u v q r : Nat} (h : Dg A b u v q r) (hA : 2147483648 ≤ A) (hu : u < A * 4294967296 + b) (hb : b < 4294967296) (hv : v < 4294967296) (c : 4294967296 ≤ q ∨ 4294967296 * r + v < q * b)
    (l : 4294967296 ≤ r + A) : q - 1 = (u * 4294967296 + v) / (A * 4294967296 + b) := by
  obtain ⟨h1, h2, h3⟩ := dg_step h hA hu hb hv c
  have hb2 : (q - 1) * b ≤ 4294967296 * 4294967295 := Nat.mul_le_mul (by have := h.hi; omega) (by omega)
  have := (fits A b u v (q - 1) (r + A) h3 (by omega)).2 (by omega)
  omega
theorem dg_next {A b u v q r : Nat} (h : Dg A b u v q r) (hA : 2147483648 ≤ A) (hu : u < A * 4294967296 + b) (hb : b < 4294967296) (hv : v < 4294967296) (c : 4294967296 ≤ q ∨ 4294967296 * r + v < q * b)
    (l : ¬ 4294967296 ≤ r + A) : Dg A b u v (q - 1) (r + A) := by
  obtain ⟨h1, h2, h3⟩ := dg_step h hA hu hb hv c
  exact ⟨h3, h2, by have := h.hi; omega, by omega⟩
theorem two_digits (Y W u1 u0 : Nat) (hY : 0 < Y) (Q1 R Q0 : Nat) (h1 : Q1 = (W * 4294967296 + u1) / Y) (hR : R = (W * 4294967296 + u1) % Y) (h0 : Q0 = (R * 4294967296 + u0) / Y) :
    Q1 * 4294967296 + Q0 = (W * 18446744073709551616 + u1 * 4294967296 + u0) / Y ∧ (R * 4294967296 + u0) % Y = (W * 18446744073709551616 + u1 * 4294967296 + u0) % Y := by
  have hd := Nat.div_add_mod (W * 4294967296 + u1) Y
  rw [← h1, ← hR] at hd
  have e : W * 18446744073709551616 + u1 * 4294967296 + u0 = Y * (Q1 * 4294967296) + (R * 4294967296 + u0) := by
    have : Y * (Q1 * 4294967296) = Y * Q1 * 4294967296 := by rw [Nat.mul_assoc]
    omega
  rw [e, Nat.mul_add_div hY, Nat.mul_add_mod Y, ← h0]
  exact ⟨rfl, rfl⟩
end Go.Proofs.Ytbccafpaeplabaa.DivN
