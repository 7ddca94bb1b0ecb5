/- Sums and products of package fix do not hang on the order, and grow with what is added and with a factor that is not below 0; for all 64-bit arguments. -/
import Derived.Test.YtbccafpaeplabaaPFixOrderx2
import Derived.Test.YtbccafpaeplabaaFixVal
namespace Go.Proofs.Ytbccafpaeplabaa.Pure
open Go.RowKit Go.Proofs.Ytbccafpaeplabaa.PFixOrder Go.Proofs.YtbccafpaeplabaaW.PrintWords Go.Proofs.YtbccafpaeplabaaW.PrintLast
open Go.Proofs.Ytbccafpaeplabaa.Val Go.Proofs.Ytbccafpaeplabaa.FixVal

theorem wf64 (a : Int) (hw : (Lit.int .i64 a).wf = true) : -9223372036854775808 ≤ a ∧ a ≤ 9223372036854775807 := by
  simp [Lit.wf, IntKind.min, IntKind.max, IntKind.signed, IntKind.bits] at hw; omega

theorem order_j1 (a b c : Int) (ha : -9223372036854775808 ≤ a ∧ a ≤ 9223372036854775807) (hb : -9223372036854775808 ≤ b ∧ b ≤ 9223372036854775807) (hc : -9223372036854775808 ≤ c ∧ c ≤ 9223372036854775807) (h : b ≤ c) (k : Nat) :
    skirmishlaw03_FixOrder.j1 (k + 5) a b c false = some true := by
  rw [show k + 5 = (k + 4) + 1 from rfl]
  simp only [skirmishlaw03_FixOrder.j1]
  rw [if_neg (by simp)]
  by_cases h0 : a < 0
  · rw [if_pos h0]
  · rw [if_neg h0, mul_f a b ha hb, mul_f a c ha hc]
    simp only [Option.bind_some]
    rw [decide_eq_true]
    apply clamp_mono
    exact Int.ediv_le_ediv (by omega) (Int.mul_le_mul_of_nonneg_left h (by omega))

theorem order_j0 (a b c : Int) (ha : -9223372036854775808 ≤ a ∧ a ≤ 9223372036854775807) (hb : -9223372036854775808 ≤ b ∧ b ≤ 9223372036854775807) (hc : -9223372036854775808 ≤ c ∧ c ≤ 9223372036854775807) (k : Nat) :
    skirmishlaw03_FixOrder.j0 (k + 6) a b c false = some true := by
  rw [show k + 6 = (k + 5) + 1 from rfl]
  simp only [skirmishlaw03_FixOrder.j0]
  rw [if_neg (by simp)]
  by_cases h : b > c
  · rw [if_pos h]
  · rw [if_neg h]
    have m1 := clamp_mono (a + b) (a + c) (by omega)
    have m2 := clamp_mono (a - c) (a - b) (by omega)
    have m3 := clamp_mono (b * 4294967296) (c * 4294967296) (by omega)
    rw [show k + 5 = (k + 4) + 1 from rfl, add_f a b ha hb, add_f a c ha hc]
    simp only [Option.bind_some]
    rw [if_neg (by omega), sub_f a b ha hb, sub_f a c ha hc]
    simp only [Option.bind_some]
    rw [if_neg (by omega)]
    simp only [fix_Floor.f, Option.bind_some]
    rw [if_neg (by omega), show k + 4 + 1 = (k + 1) + 4 from rfl, of_f b hb, of_f c hc]
    simp only [Option.bind_some]
    rw [decide_eq_false (by omega)]
    exact order_j1 a b c ha hb hc (by omega) k

theorem FixOrder : skirmishlaw03_FixOrder.Pure := by
  intro a b c wa wb wc
  have ha := wf64 a wa
  have hb := wf64 b wb
  have hc := wf64 c wc
  have h0 : (-9223372036854775808 : Int) ≤ 0 ∧ (0 : Int) ≤ 9223372036854775807 := by omega
  have h1 : (-9223372036854775808 : Int) ≤ 4294967296 ∧ (4294967296 : Int) ≤ 9223372036854775807 := by omega
  refine ⟨66, ?_⟩
  unfold skirmishlaw03_FixOrder.f
  rw [show (66 : Nat) = 6 + 60 from rfl, awake_f]
  simp only [Option.bind_some, if_true]
  rw [show 6 + 60 = 65 + 1 from rfl, add_f a b ha hb, add_f b a hb ha]
  simp only [Option.bind_some]
  rw [Int.add_comm b a, if_pos rfl, show 65 + 1 = 62 + 4 from rfl, mul_f a b ha hb, mul_f b a hb ha]
  simp only [Option.bind_some]
  rw [Int.mul_comm b a, if_pos rfl, show 62 + 4 = 65 + 1 from rfl, add_f a 0 ha h0]
  simp only [Option.bind_some]
  rw [Int.add_zero, clamp_in a ha, if_pos rfl, show 65 + 1 = 62 + 4 from rfl, mul_f a _ ha h1]
  simp only [Option.bind_some]
  rw [Int.mul_ediv_cancel _ (by decide), clamp_in a ha, if_pos rfl, show 62 + 4 = 65 + 1 from rfl, sub_f a a ha ha]
  simp only [Option.bind_some]
  rw [Int.sub_self, clamp_in 0 h0]
  exact order_j0 a b c ha hb hc 60

end Go.Proofs.Ytbccafpaeplabaa.Pure
