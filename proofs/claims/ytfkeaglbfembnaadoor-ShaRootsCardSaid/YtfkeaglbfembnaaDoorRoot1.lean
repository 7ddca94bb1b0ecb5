/- Numbers as twelve digits of 16 bits: what the reference's product does to them. -/
import Derived.Test.YtfkeaglbfembnaaDoorSha2
namespace Go.Proofs.YtfkeaglbfembnaaDoor.Root1
open Go Go.RowKit Go.Proofs.YtfkeaglbfembnaaDoor.Arr
set_option maxRecDepth 100000
set_option linter.unusedVariables false
def dgt (X i : Nat) : Nat := X / 65536 ^ i % 65536
theorem dgt_lt (X i : Nat) : dgt X i < 65536 := Nat.mod_lt _ (by decide)
/-- A row of twelve numbers. -/
def drow (f : Nat → Nat) : Array Value := arr 12 fun i => .int .u64 (f i : Nat)
theorem drow_get (f : Nat → Nat) (i : Nat) (h : i < 12) : (drow f)[i]? = some (.int .u64 (f i : Nat)) := arr_get _ _ _ h
theorem drow_size (f : Nat → Nat) : (drow f).size = 12 := arr_size _ _
theorem drow_one (f : Nat → Nat) : (drow f).all (·.oneCell') = true := arr_one _ _ fun _ _ => rfl
theorem drow_congr (f g : Nat → Nat) (h : ∀ i, i < 12 → f i = g i) : drow f = drow g := by unfold drow; apply arr_congr; intro j hj; rw [h j hj]
theorem drow_set (f : Nat → Nat) (i v : Nat) : (drow f).setIfInBounds i (.int .u64 (v : Nat)) = drow (fun j => if j = i then v else f j) := by
  unfold drow; rw [arr_set]; apply arr_congr; intro j _; unfold upd; by_cases h : j = i <;> simp [h]
/-- A number of which the digit j may be too great: c there, T behind it. -/
def crow (V j c T : Nat) (i : Nat) : Nat := if i < j then dgt V i else if i = j then c else dgt T (i - j - 1)
theorem div_pow (V j k : Nat) : V / 65536 ^ (j + k) = V / 65536 ^ j / 65536 ^ k := by rw [Nat.pow_add, Nat.div_div_eq_div_mul]
theorem crow_done (V j c T : Nat) (h : V / 65536 ^ j = c + 65536 * T) (hc : c < 65536) (i : Nat) : crow V j c T i = dgt V i := by
  unfold crow
  by_cases h1 : i < j
  · rw [if_pos h1]
  · rw [if_neg h1]
    by_cases h2 : i = j
    · subst h2; rw [if_pos rfl]; unfold dgt; rw [h]; omega
    · rw [if_neg h2]
      obtain ⟨k, rfl⟩ : ∃ k, i = j + (1 + k) := ⟨i - j - 1, by omega⟩
      unfold dgt
      rw [div_pow V j (1 + k), h, Nat.pow_add, ← Nat.div_div_eq_div_mul, show (c + 65536 * T) / 65536 ^ 1 = T by rw [Nat.pow_one]; omega, show j + (1 + k) - j - 1 = k by omega]
theorem crow_step (V j c T : Nat) (h : V / 65536 ^ j = c + 65536 * T) (i : Nat) :
    (if i = j then c % 65536 else if i = j + 1 then dgt T 0 + c / 65536 else crow V j c T i) = crow V (j + 1) (T % 65536 + c / 65536) (T / 65536) i := by
  unfold crow
  by_cases h1 : i = j
  · subst h1; rw [if_pos rfl, if_pos (by omega)]; unfold dgt; rw [h]; omega
  · rw [if_neg h1]
    by_cases h2 : i = j + 1
    · rw [if_pos h2, if_neg (by omega), if_pos h2]; unfold dgt; rw [Nat.pow_zero, Nat.div_one]
    · rw [if_neg h2]
      by_cases h3 : i < j
      · rw [if_pos h3, if_pos (by omega)]
      · rw [if_neg h3, if_neg h1, if_neg (by omega), if_neg h2]
        unfold dgt
        rw [show i - j - 1 = 1 + (i - (j + 1) - 1) by omega, Nat.pow_add, ← Nat.div_div_eq_div_mul, Nat.pow_one]
theorem crow_next (V j c T : Nat) (h : V / 65536 ^ j = c + 65536 * T) : V / 65536 ^ (j + 1) = (T % 65536 + c / 65536) + 65536 * (T / 65536) := by
  rw [div_pow, h, Nat.pow_one]; omega
theorem crow_start (V0 p s : Nat) (i : Nat) : (if i = s then dgt V0 s + p else dgt V0 i) = crow (V0 + p * 65536 ^ s) s (dgt V0 s + p) (V0 / 65536 ^ (s + 1)) i := by
  unfold crow
  by_cases h1 : i = s
  · rw [if_pos h1, if_neg (by omega), if_pos h1]
  · rw [if_neg h1]
    by_cases h2 : i < s
    · rw [if_pos h2]
      obtain ⟨k, rfl⟩ : ∃ k, s = i + (1 + k) := ⟨s - i - 1, by omega⟩
      unfold dgt
      rw [show p * 65536 ^ (i + (1 + k)) = (p * 65536 ^ k * 65536) * 65536 ^ i by rw [Nat.pow_add, Nat.pow_add, Nat.pow_one, Nat.mul_assoc, Nat.mul_assoc, Nat.mul_comm (65536 ^ i), Nat.mul_comm 65536 (65536 ^ k), Nat.mul_assoc],
        Nat.add_mul_div_right _ _ (Nat.pow_pos (by decide)), Nat.add_mul_mod_self_right]
    · rw [if_neg h2, if_neg h1]
      obtain ⟨k, rfl⟩ : ∃ k, i = (s + 1) + k := ⟨i - s - 1, by omega⟩
      unfold dgt
      rw [div_pow V0 (s + 1) k, show s + 1 + k - s - 1 = k by omega]
theorem crow_open (V0 p s : Nat) : (V0 + p * 65536 ^ s) / 65536 ^ s = (dgt V0 s + p) + 65536 * (V0 / 65536 ^ (s + 1)) := by
  rw [Nat.add_mul_div_right _ _ (Nat.pow_pos (by decide)), div_pow]
  unfold dgt; rw [Nat.pow_one]; omega
/-- Y's digits below k. -/
theorem low_succ (Y k : Nat) : Y % 65536 ^ (k + 1) = Y % 65536 ^ k + dgt Y k * 65536 ^ k := by
  unfold dgt
  rw [Nat.pow_succ, Nat.mod_mul, Nat.mul_comm (65536 ^ k)]
theorem low_all (Y k : Nat) (h : Y < 65536 ^ k) : Y % 65536 ^ k = Y := Nat.mod_eq_of_lt h
/-- What stands there behind k of the products of the digit i. -/
def part12 (X Y i k : Nat) : Nat := (X % 65536 ^ i) * Y + dgt X i * 65536 ^ i * (Y % 65536 ^ k)
theorem part_succ (X Y i k : Nat) : part12 X Y i k + dgt X i * dgt Y k * 65536 ^ (i + k) = part12 X Y i (k + 1) := by
  unfold part12
  rw [low_succ, Nat.mul_add, Nat.add_assoc, Nat.pow_add]
  congr 2
  simp only [Nat.mul_assoc, Nat.mul_comm, Nat.mul_left_comm]
theorem part_row (X Y i : Nat) (hi : i < 12) (h : X * Y < 65536 ^ 12) : part12 X Y i (12 - i) = part12 X Y (i + 1) 0 := by
  unfold part12
  rw [Nat.pow_zero, Nat.mod_one, Nat.mul_zero, Nat.add_zero, low_succ X i, Nat.add_mul]
  congr 1
  by_cases h0 : dgt X i = 0
  · rw [h0]; simp
  · have hX : 65536 ^ i ≤ X := by
      apply Nat.le_of_not_lt
      intro hlt
      exact h0 (by unfold dgt; rw [Nat.div_eq_of_lt hlt])
    have hY : Y < 65536 ^ (12 - i) := by
      apply Nat.lt_of_not_le
      intro hle
      have h1 : 65536 ^ i * 65536 ^ (12 - i) ≤ X * Y := Nat.mul_le_mul hX hle
      rw [← Nat.pow_add, show i + (12 - i) = 12 by omega] at h1
      omega
    rw [low_all _ _ hY]
theorem part_zero (X Y : Nat) : part12 X Y 0 0 = 0 := by unfold part12; simp [Nat.mod_one]
theorem part_all (X Y : Nat) (hX : X < 65536 ^ 12) : part12 X Y 12 0 = X * Y := by unfold part12; rw [low_all _ _ hX]; simp [Nat.mod_one]
theorem part_le (X Y i k : Nat) : part12 X Y i k ≤ X * Y := by
  unfold part12
  have h1 : X % 65536 ^ i + dgt X i * 65536 ^ i ≤ X := by rw [← low_succ]; exact Nat.mod_le _ _
  have h2 : Y % 65536 ^ k ≤ Y := Nat.mod_le _ _
  calc (X % 65536 ^ i) * Y + dgt X i * 65536 ^ i * (Y % 65536 ^ k) ≤ (X % 65536 ^ i) * Y + dgt X i * 65536 ^ i * Y := Nat.add_le_add_left (Nat.mul_le_mul_left _ h2) _
    _ = (X % 65536 ^ i + dgt X i * 65536 ^ i) * Y := by rw [Nat.add_mul]
    _ ≤ X * Y := Nat.mul_le_mul_right _ h1
theorem zero88 : ∀ w, (zeroValue 88).run Tryd.prog w = .ok (.agg (drow (dgt 0))) w := by intro w; kernel_rfl
theorem row88 : RowTy Tryd.prog 88 12 := ⟨_, Tryd.underlying88, rfl, by kernel_rfl⟩
theorem cell36 : CellTy Tryd.prog 36 := ⟨_, Tryd.underlying36, rfl, by kernel_rfl⟩
attribute [irreducible] drow
end Go.Proofs.YtfkeaglbfembnaaDoor.Root1
