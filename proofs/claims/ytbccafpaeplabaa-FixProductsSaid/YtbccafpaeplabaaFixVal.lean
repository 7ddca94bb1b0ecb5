/- What package fix computes, as whole numbers held at the ends: of the functions as print.sh wrote them. -/
import Derived.Test.YtbccafpaeplabaaPFixOrderx2
import Derived.Test.YtbccafpaeplabaaVal
namespace Go.Proofs.Ytbccafpaeplabaa.FixVal
open Go.RowKit Go.Proofs.Ytbccafpaeplabaa.PFixOrder Go.Proofs.YtbccafpaeplabaaW.PrintWords Go.Proofs.YtbccafpaeplabaaW.PrintLast Go.Proofs.Ytbccafpaeplabaa.Val
set_option linter.unusedVariables false

theorem u64_in (x : Int) (h0 : 0 ≤ x) (h1 : x < 18446744073709551616) : IntKind.u64.wrap x = x := by
  simp only [IntKind.wrap, IntKind.bits, IntKind.signed]; simp; omega
theorem u64_mod (x : Int) : IntKind.u64.wrap x = x % 18446744073709551616 := by
  simp [IntKind.wrap, IntKind.bits, IntKind.signed]

theorem size_f (a : Int) (ha : -9223372036854775808 ≤ a ∧ a ≤ 9223372036854775807) : fix_size.f a = some ((a.natAbs : Int), decide (a < 0)) := by
  unfold fix_size.f
  by_cases c : a < 0
  · rw [if_pos c, u64_mod, u64_mod]
    have : (-(a % 18446744073709551616)) % 18446744073709551616 = (a.natAbs : Int) := by omega
    rw [this]; simp [c]
  · rw [if_neg c, u64_mod]
    have : a % 18446744073709551616 = (a.natAbs : Int) := by omega
    rw [this]; simp [c]

theorem held_f (hi lo : Int) (below more : Bool) (v : Nat) (h0 : 0 ≤ hi) (h1 : hi < 9223372036854775808) (l0 : 0 ≤ lo) (l1 : lo < 18446744073709551616)
    (hv : (v : Int) = hi * 18446744073709551616 + lo + ((below && more).toNat : Int)) : fix_held.f 4 hi lo below more = some (clamp (signed v below)) := by
  have step2 : ∀ (H L : Int), 0 ≤ H → 0 ≤ L → L < 18446744073709551616 → (v : Int) = H * 18446744073709551616 + L → fix_held.j1 2 H L below = some (clamp (signed v below)) := by
    intro H L hH hL hL' e
    simp only [fix_held.j1]
    cases below
    · simp only [fix_held.j2, Bool.false_eq_true, if_false]
      by_cases c : H > 0
      · rw [if_pos c]; unfold clamp signed; simp; omega
      · rw [if_neg c]
        have : H = 0 := by omega
        subst this
        by_cases c2 : L > 9223372036854775807
        · rw [if_pos c2]; unfold clamp signed; simp; omega
        · rw [if_neg c2]; unfold clamp signed wrap64; simp; omega
    · simp only [fix_held.j2, if_true]
      by_cases c : H > 0
      · rw [if_pos c]; unfold clamp signed; simp; omega
      · rw [if_neg c]
        have : H = 0 := by omega
        subst this
        by_cases c2 : L > 9223372036854775808
        · rw [decide_eq_true c2, if_pos rfl]; unfold clamp signed; simp; omega
        · rw [decide_eq_false c2, if_neg (by simp)]; unfold clamp signed wrap64; simp; omega
  unfold fix_held.f
  have hb : below = false → (below && more).toNat = 0 := by intro h; subst h; rfl
  by_cases cm : (below && more) = true
  · have e1 : below = true ∧ more = true := by simpa using cm
    obtain ⟨rfl, rfl⟩ := e1
    simp only [Bool.and_self, Bool.toNat_true] at hv
    rw [if_pos rfl]
    simp only [fix_held.j0, if_true]
    by_cases c : lo = 18446744073709551615
    · subst c
      have : IntKind.u64.wrap (18446744073709551615 + 1) = 0 := by decide
      rw [this, if_pos rfl, u64_in (hi + 1) (by omega) (by omega)]
      exact step2 _ _ (by omega) (by omega) (by omega) (by omega)
    · rw [u64_in (lo + 1) (by omega) (by omega), if_neg (by omega)]
      exact step2 _ _ (by omega) (by omega) (by omega) (by omega)
  · have e0 : (below && more) = false := by simpa using cm
    rw [e0] at hv
    simp only [Bool.toNat_false] at hv
    have e2 : (if below = true then fix_held.j0 4 hi lo below more else fix_held.j0 4 hi lo below false) = fix_held.j0 4 hi lo below false := by
      cases below
      · simp
      · simp at e0; subst e0; simp
    rw [e2]
    simp only [fix_held.j0, Bool.false_eq_true, if_false]
    have e3 : fix_held.j1 3 hi lo below = fix_held.j1 2 hi lo below := by
      have h2 := step2 hi lo h0 l0 l1 (by omega)
      rw [h2]; exact fix_held.mono_l 2 |>.2.1 _ _ _ _ h2
    rw [e3]
    exact step2 _ _ h0 l0 l1 (by omega)

theorem held_ev (hi lo : Int) (below more : Bool) (v : Nat) (h0 : 0 ≤ hi) (h1 : hi < 9223372036854775808) (l0 : 0 ≤ lo) (l1 : lo < 18446744073709551616)
    (hv : (v : Int) = hi * 18446744073709551616 + lo + ((below && more).toNat : Int)) (k : Nat) : fix_held.f (k + 4) hi lo below more = some (clamp (signed v below)) :=
  at_rounds (fix_held.mono hi lo below more) (by omega) (held_f hi lo below more v h0 h1 l0 l1 hv)

theorem of_f (n : Int) (hn : -9223372036854775808 ≤ n ∧ n ≤ 9223372036854775807) (k : Nat) : fix_Of.f (k + 4) n = some (clamp (n * 4294967296)) := by
  unfold fix_Of.f
  rw [size_f n hn]
  simp only [Option.bind_some]
  have h := held_ev ((n.natAbs : Int) / 4294967296) (IntKind.u64.wrap ((n.natAbs : Int) * 4294967296)) (decide (n < 0)) false (n.natAbs * 4294967296) (by omega) (by omega) (by rw [u64_mod]; omega) (by rw [u64_mod]; omega)
    (by rw [u64_mod]; simp; omega) k
  rw [h]
  simp only [Option.bind_some]
  congr 2
  have := signed_abs n
  unfold signed at *
  split at this <;> simp_all <;> omega

theorem add_f (a b : Int) (ha : -9223372036854775808 ≤ a ∧ a ≤ 9223372036854775807) (hb : -9223372036854775808 ≤ b ∧ b ≤ 9223372036854775807) (k : Nat) : fix_Add.f (k + 1) a b = some (clamp (a + b)) := by
  unfold fix_Add.f clamp wrap64
  simp only [fix_Add.j0]
  split <;> (try split) <;> (try split) <;> (try split) <;> (try split) <;> (try split) <;> (try split) <;> (try split) <;> simp_all <;> omega
theorem sub_f (a b : Int) (ha : -9223372036854775808 ≤ a ∧ a ≤ 9223372036854775807) (hb : -9223372036854775808 ≤ b ∧ b ≤ 9223372036854775807) (k : Nat) : fix_Sub.f (k + 1) a b = some (clamp (a - b)) := by
  unfold fix_Sub.f clamp wrap64
  simp only [fix_Sub.j0]
  split <;> (try split) <;> (try split) <;> (try split) <;> (try split) <;> (try split) <;> (try split) <;> (try split) <;> simp_all <;> omega

theorem awake_f (k : Nat) : skirmishlaw03_awake.f (k + 60) = some true := at_rounds skirmishlaw03_awake.mono (by omega) (show skirmishlaw03_awake.f 60 = some true by decide +kernel)

theorem and_low (x : Int) (h0 : 0 ≤ x) (h1 : x < 18446744073709551616) : Go.bits .and .u64 x 4294967295 = x % 4294967296 := by
  have := bits_mask .u64 64 (by decide) (fun n a b => u64_in n a (by simpa using b)) 32 (by decide) x h0 (by simpa using h1)
  simpa using this

theorem mul_bound (a b : Int) (ha : 0 ≤ a) (ha1 : a ≤ 4294967295) (hb : 0 ≤ b) (hb1 : b ≤ 4294967295) : 0 ≤ a * b ∧ a * b ≤ 18446744065119617025 := by
  constructor
  · exact Int.mul_nonneg ha hb
  · have h1 : a * b ≤ 4294967295 * b := Int.mul_le_mul_of_nonneg_right ha1 hb
    omega

theorem mul64_f (x y : Int) (hx : 0 ≤ x) (hx1 : x < 18446744073709551616) (hy : 0 ≤ y) (hy1 : y < 18446744073709551616) :
    bits_Mul64.f x y = some (x * y / 18446744073709551616, x * y % 18446744073709551616) := by
  unfold bits_Mul64.f
  rw [and_low x hx hx1, and_low y hy hy1]
  have dx : x = (x / 4294967296) * 4294967296 + x % 4294967296 := by omega
  have dy : y = (y / 4294967296) * 4294967296 + y % 4294967296 := by omega
  have e : x * y = (x / 4294967296) * (y / 4294967296) * 18446744073709551616 + ((x / 4294967296) * (y % 4294967296) + (x % 4294967296) * (y / 4294967296)) * 4294967296 + (x % 4294967296) * (y % 4294967296) := by
    generalize x / 4294967296 = p at *
    generalize x % 4294967296 = q at *
    generalize y / 4294967296 = r at *
    generalize y % 4294967296 = s at *
    subst dx; subst dy
    grind
  have b1 := mul_bound (x / 4294967296) (y / 4294967296) (by omega) (by omega) (by omega) (by omega)
  have b2 := mul_bound (x / 4294967296) (y % 4294967296) (by omega) (by omega) (by omega) (by omega)
  have b3 := mul_bound (x % 4294967296) (y / 4294967296) (by omega) (by omega) (by omega) (by omega)
  have b4 := mul_bound (x % 4294967296) (y % 4294967296) (by omega) (by omega) (by omega) (by omega)
  have b5 : x * y / 18446744073709551616 < 18446744073709551616 := by omega
  rw [u64_mod (x * y)]
  generalize x * y = P at *
  generalize (x / 4294967296) * (y / 4294967296) = A at *
  generalize (x / 4294967296) * (y % 4294967296) = B at *
  generalize (x % 4294967296) * (y / 4294967296) = C at *
  generalize (x % 4294967296) * (y % 4294967296) = D at *
  congr 2
  have w1 : IntKind.u64.wrap D = D := u64_in _ (by omega) (by omega)
  have w2 : IntKind.u64.wrap B = B := u64_in _ (by omega) (by omega)
  have w3 : IntKind.u64.wrap C = C := u64_in _ (by omega) (by omega)
  have w4 : IntKind.u64.wrap A = A := u64_in _ (by omega) (by omega)
  rw [w1, w2, w3, w4]
  have w5 : IntKind.u64.wrap (B + D / 4294967296) = B + D / 4294967296 := u64_in _ (by omega) (by omega)
  rw [w5, and_low _ (by omega) (by omega)]
  rw [u64_in (A + _) (by omega) (by omega), u64_in (_ + C) (by omega) (by omega), u64_in _ (by omega) (by omega)]
  omega

theorem or_halves (h l : Int) (h0 : 0 ≤ h) (h1 : h < 18446744073709551616) (l0 : 0 ≤ l) (l1 : l < 4294967296) :
    Go.bits .or .u64 (IntKind.u64.wrap (h * 4294967296)) l = h * 4294967296 % 18446744073709551616 + l := by
  rw [u64_mod]
  have e := u64_or (h * 4294967296 % 18446744073709551616) l (by omega) (by omega) (by omega) (by omega)
  rw [e, nat_join 32 _ _ (by omega) (by omega)]
  omega

theorem mul_f (a b : Int) (ha : -9223372036854775808 ≤ a ∧ a ≤ 9223372036854775807) (hb : -9223372036854775808 ≤ b ∧ b ≤ 9223372036854775807) (k : Nat) :
    fix_Mul.f (k + 4) a b = some (clamp (a * b / 4294967296)) := by
  unfold fix_Mul.f
  rw [size_f a ha, size_f b hb]
  simp only [Option.bind_some]
  rw [mul64_f _ _ (by omega) (by omega) (by omega) (by omega)]
  simp only [Option.bind_some]
  have hP : ((a.natAbs : Int) * (b.natAbs : Int)) = ((a.natAbs * b.natAbs : Nat) : Int) := by simp
  rw [hP]
  have bound : a.natAbs * b.natAbs ≤ 9223372036854775808 * 9223372036854775808 := Nat.mul_le_mul (by omega) (by omega)
  have hs : signed (a.natAbs * b.natAbs) (decide (a < 0) != decide (b < 0)) = a * b := by
    have e1 := signed_abs a
    have e2 := signed_abs b
    unfold signed at *
    by_cases c1 : a < 0 <;> by_cases c2 : b < 0 <;> simp only [c1, c2, decide_true, decide_false, if_true, if_false, Bool.false_eq_true, bne_self_eq_false, Bool.bne_true, Bool.bne_false, Bool.not_false, Int.natCast_mul] at * <;> (conv => rhs; rw [← e1, ← e2]) <;> grind
  generalize a.natAbs * b.natAbs = P at *
  rw [or_halves _ _ (by omega) (by omega) (by omega) (by omega)]
  have hmore : ((P : Int) % 18446744073709551616 % 4294967296 != 0) = decide (P % 4294967296 ≠ 0) := by
    rw [Bool.eq_iff_iff]; simp; omega
  rw [hmore]
  have hd := signed_div P 4294967296 (by decide) (decide (a < 0) != decide (b < 0))
  rw [hs] at hd
  have h := held_ev ((P : Int) / 18446744073709551616 / 4294967296) ((P : Int) / 18446744073709551616 * 4294967296 % 18446744073709551616 + (P : Int) % 18446744073709551616 / 4294967296) (decide (a < 0) != decide (b < 0)) (decide (P % 4294967296 ≠ 0))
    (P / 4294967296 + ((decide (a < 0) != decide (b < 0)) && decide (P % 4294967296 ≠ 0)).toNat) (by omega) (by omega) (by omega) (by omega) (by omega) k
  rw [h]
  simp only [Option.bind_some]
  rw [hd]; rfl

end Go.Proofs.Ytbccafpaeplabaa.FixVal
