/- The reference's lists of 160 bits as natural numbers: plain laws. -/
import Derived.Test.YtbccafpaeplabaaBig1
namespace Go.Proofs.Ytbccafpaeplabaa.Big
open Go.RowKit Go.Proofs.Ytbccafpaeplabaa.Arr
set_option linter.unusedVariables false

def bn (a : Nat) : Array Value := big (Nat.testBit a)

theorem testBit_div (a k : Nat) : a.testBit k = decide (a / 2 ^ k % 2 = 1) := Nat.testBit_eq_decide_div_mod_eq

theorem bit_split (a k : Nat) : a % 2 ^ (k + 1) = a % 2 ^ k + 2 ^ k * (a.testBit k).toNat := by
  rw [Nat.mod_pow_succ, testBit_div]
  rcases Nat.mod_two_eq_zero_or_one (a / 2 ^ k) with h | h <;> simp [h]

theorem carry_nat (a b : Nat) : ∀ k, carry (Nat.testBit a) (Nat.testBit b) k = decide (2 ^ k ≤ a % 2 ^ k + b % 2 ^ k)
  | 0 => by simp [carry, Nat.mod_one]
  | k + 1 => by
    have ih := carry_nat a b k
    have ha := bit_split a k
    have hb := bit_split b k
    have h1 : a % 2 ^ k < 2 ^ k := Nat.mod_lt _ (Nat.pow_pos (by decide))
    have h2 : b % 2 ^ k < 2 ^ k := Nat.mod_lt _ (Nat.pow_pos (by decide))
    have h3 : 2 ^ (k + 1) = 2 ^ k + 2 ^ k := by rw [Nat.pow_succ]; omega
    simp only [carry, ih]
    cases ca : a.testBit k <;> cases cb : b.testBit k <;> simp only [ca, cb, Bool.toNat_true, Bool.toNat_false, Nat.mul_one, Nat.mul_zero, Nat.add_zero] at ha hb <;> rw [ha, hb, h3] <;> simp <;> omega

theorem plusB_nat (a b i : Nat) (hi : i < 160) : plusB (Nat.testBit a) (Nat.testBit b) i = Nat.testBit (a + b) i := by
  unfold plusB sumb
  rw [if_pos hi, carry_nat, testBit_div a, testBit_div b, testBit_div (a + b), Nat.add_div (Nat.pow_pos (by decide))]
  have h1 := Nat.mod_two_eq_zero_or_one (a / 2 ^ i)
  have h2 := Nat.mod_two_eq_zero_or_one (b / 2 ^ i)
  by_cases c : 2 ^ i ≤ a % 2 ^ i + b % 2 ^ i
  · rw [if_pos c]
    rcases h1 with h1 | h1 <;> rcases h2 with h2 | h2 <;> simp [h1, h2, c] <;> omega
  · rw [if_neg c]
    rcases h1 with h1 | h1 <;> rcases h2 with h2 | h2 <;> simp [h1, h2, c] <;> omega

theorem borrow_nat (a b : Nat) : ∀ k, borrow (Nat.testBit a) (Nat.testBit b) k = decide (a % 2 ^ k < b % 2 ^ k)
  | 0 => by simp [borrow, Nat.mod_one]
  | k + 1 => by
    have ih := borrow_nat a b k
    have ha := bit_split a k
    have hb := bit_split b k
    have h1 : a % 2 ^ k < 2 ^ k := Nat.mod_lt _ (Nat.pow_pos (by decide))
    have h2 : b % 2 ^ k < 2 ^ k := Nat.mod_lt _ (Nat.pow_pos (by decide))
    simp only [borrow, ih]
    cases ca : a.testBit k <;> cases cb : b.testBit k <;> simp only [ca, cb, Bool.toNat_true, Bool.toNat_false, Nat.mul_one, Nat.mul_zero, Nat.add_zero] at ha hb <;> rw [ha, hb] <;> simp <;> omega

theorem sub_div (a b c : Nat) (h : b ≤ a) (hc : 0 < c) : (a - b) / c + (if a % c < b % c then 1 else 0) = a / c - b / c := by
  have ha := Nat.div_add_mod a c
  have hb := Nat.div_add_mod b c
  have h1 := Nat.mod_lt a hc
  have h2 := Nat.mod_lt b hc
  have hq : b / c ≤ a / c := Nat.div_le_div_right h
  obtain ⟨d, hd⟩ : ∃ d, a / c = b / c + d := ⟨a / c - b / c, by omega⟩
  have hm : c * (b / c + d) = c * (b / c) + c * d := Nat.mul_add _ _ _
  rw [hd] at ha
  rw [hd]
  by_cases l : a % c < b % c
  · rw [if_pos l]
    have hd0 : 0 < d := by
      rcases Nat.eq_zero_or_pos d with e | e
      · subst e; simp at hm ha; omega
      · exact e
    obtain ⟨e, rfl⟩ : ∃ e, d = e + 1 := ⟨d - 1, by omega⟩
    have hm2 : c * (e + 1) = c * e + c := by rw [Nat.mul_add, Nat.mul_one]
    have : a - b = c * e + (c + a % c - b % c) := by omega
    rw [this, Nat.mul_add_div hc, Nat.div_eq_of_lt (by omega)]
    omega
  · rw [if_neg l]
    have : a - b = c * d + (a % c - b % c) := by omega
    rw [this, Nat.mul_add_div hc, Nat.div_eq_of_lt (by omega)]
    omega

theorem minusB_nat (a b i : Nat) (hi : i < 160) (h : b ≤ a) : minusB (Nat.testBit a) (Nat.testBit b) i = Nat.testBit (a - b) i := by
  unfold minusB diffb
  rw [if_pos hi, borrow_nat, testBit_div a, testBit_div b, testBit_div (a - b)]
  have hs := sub_div a b (2 ^ i) h (Nat.pow_pos (by decide))
  have h1 := Nat.mod_two_eq_zero_or_one (a / 2 ^ i)
  have h2 := Nat.mod_two_eq_zero_or_one (b / 2 ^ i)
  have hq : b / 2 ^ i ≤ a / 2 ^ i := Nat.div_le_div_right h
  by_cases c : a % 2 ^ i < b % 2 ^ i
  · rw [if_pos c] at hs
    rcases h1 with h1 | h1 <;> rcases h2 with h2 | h2 <;> simp [h1, h2, c] <;> omega
  · rw [if_neg c] at hs
    rcases h1 with h1 | h1 <;> rcases h2 with h2 | h2 <;> simp [h1, h2, c] <;> omega

theorem lessB_nat (a b : Nat) : ∀ k, lessB (Nat.testBit a) (Nat.testBit b) k = decide (a % 2 ^ k < b % 2 ^ k)
  | 0 => by simp [lessB, Nat.mod_one]
  | k + 1 => by
    have ih := lessB_nat a b k
    have ha := bit_split a k
    have hb := bit_split b k
    have h1 : a % 2 ^ k < 2 ^ k := Nat.mod_lt _ (Nat.pow_pos (by decide))
    have h2 : b % 2 ^ k < 2 ^ k := Nat.mod_lt _ (Nat.pow_pos (by decide))
    simp only [lessB, ih]
    cases ca : a.testBit k <;> cases cb : b.testBit k <;> simp only [ca, cb, Bool.toNat_true, Bool.toNat_false, Nat.mul_one, Nat.mul_zero, Nat.add_zero] at ha hb <;> rw [ha, hb] <;> simp <;> omega

theorem upB_nat (a n i : Nat) (hi : i < 160) : upB (Nat.testBit a) n 160 i = Nat.testBit (a * 2 ^ n) i := by
  unfold upB
  rw [Nat.mul_comm, Nat.testBit_two_pow_mul]
  by_cases c : n ≤ i
  · rw [if_pos ⟨c, hi⟩]; simp [c]
  · rw [if_neg (by omega)]; simp [c]

theorem bn_zero : big (fun _ => false) = bn 0 := by unfold bn; apply big_congr; intro i _; simp
theorem bn_mod (a : Nat) : bn a = bn (a % 2 ^ 160) := by unfold bn; apply big_congr; intro i h; rw [Nat.testBit_mod_two_pow]; simp [h]

theorem plus_nat (a b : Nat) (w : World) : Calls Try.prog 36 #[.agg (bn a), .agg (bn b)] w fun e w' => e = .returned (.agg (bn (a + b))) ∧ Below w.heap.size w w' := by
  have h := plus_calls (Nat.testBit a) (Nat.testBit b) w
  rwa [big_congr _ _ (plusB_nat a b)] at h
theorem minus_nat (a b : Nat) (hab : b ≤ a) (w : World) : Calls Try.prog 38 #[.agg (bn a), .agg (bn b)] w fun e w' => e = .returned (.agg (bn (a - b))) ∧ Below w.heap.size w w' := by
  have h := minus_calls (Nat.testBit a) (Nat.testBit b) w
  rwa [big_congr _ _ (fun i hi => minusB_nat a b i hi hab)] at h
theorem less_nat (a b : Nat) (ha : a < 2 ^ 160) (hb : b < 2 ^ 160) (w : World) : Calls Try.prog 37 #[.agg (bn a), .agg (bn b)] w fun e w' => e = .returned (.bool (decide (a < b))) ∧ Below w.heap.size w w' := by
  have h := less_calls (Nat.testBit a) (Nat.testBit b) w
  rw [lessB_nat, Nat.mod_eq_of_lt ha, Nat.mod_eq_of_lt hb] at h
  exact h
theorem up_nat (a n : Nat) (hn : n ≤ 160) (w : World) : Calls Try.prog 30 #[.agg (bn a), .int .i64 n] w fun e w' => e = .returned (.agg (bn (a * 2 ^ n))) ∧ Below w.heap.size w w' := by
  have h := up_calls (Nat.testBit a) n hn w
  rwa [big_congr _ _ (fun i hi => upB_nat a n i hi)] at h

theorem bn_get (a i : Nat) (h : i < 160) : (bn a)[i]? = some (.bool (a.testBit i)) := big_get _ i h
theorem bn_size (a : Nat) : (bn a).size = 160 := big_size _
theorem bn_one (a : Nat) : (bn a).all (·.oneCell') = true := big_one _
attribute [irreducible] bn

end Go.Proofs.Ytbccafpaeplabaa.Big
