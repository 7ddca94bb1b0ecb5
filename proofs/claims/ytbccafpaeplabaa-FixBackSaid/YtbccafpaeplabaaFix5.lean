/- Every whole number, sum, difference and whole part that package fix tells is the exact one, held at the ends; for all 64-bit arguments. -/
import Derived.Test.YtbccafpaeplabaaRows
import Derived.Test.YtbccafpaeplabaaBig4
import Derived.Test.YtbccafpaeplabaaFixVal
import Derived.WalkKit
import Derived.ProofKit
import Derived.OpenShut
import Derived.ShutString
import Derived.ChangeOld
import Derived.Below
import Derived.SizedLaws
namespace Go.Proofs.Ytbccafpaeplabaa.FixSum
open Go.RowKit Go.Proofs.Ytbccafpaeplabaa.PFixOrder Go.Proofs.YtbccafpaeplabaaW.PrintWords Go.Proofs.YtbccafpaeplabaaW.PrintLast Go.Proofs.Ytbccafpaeplabaa.Val Go.Proofs.Ytbccafpaeplabaa.FixVal Go.Proofs.Ytbccafpaeplabaa.Big Go.Proofs.Ytbccafpaeplabaa.Arr
open Go.Proofs.Ytbccafpaeplabaa
set_option linter.unusedVariables false
set_option linter.unusedSimpArgs false
set_option maxRecDepth 100000

abbrev In64 (a : Int) : Prop := -9223372036854775808 ≤ a ∧ a ≤ 9223372036854775807
theorem wf64 (a : Int) (hw : (Lit.int .i64 a).wf = true) : In64 a := by
  simp [Lit.wf, IntKind.min, IntKind.max, IntKind.signed, IntKind.bits] at hw; unfold In64; omega
/-- A call that answers v and writes nothing that was there. -/
abbrev Gives (f : Nat) (args : Array Value) (v : Value) : Prop := ∀ w : World, Calls Try.prog f args w fun e w' => e = .returned v ∧ Below w.heap.size w w'

theorem awake_g : Gives 9 #[] (.bool true) := fun w => (skirmishlaw03_awake.calls 60 true w (awake_f 0)).mono fun e w' ⟨he, hd⟩ => ⟨he, hd.below⟩
theorem pOf (a : Int) (ha : In64 a) : Gives 14 #[.int .i64 a] (.int .i64 (clamp (a * 4294967296))) := fun w => (fix_Of.calls 4 a _ w (of_f a ha 0)).mono fun e w' ⟨he, hd⟩ => ⟨he, hd.below⟩
theorem pFloor (a : Int) : Gives 16 #[.int .i64 a] (.int .i64 (a / 4294967296)) := fun w => (fix_Floor.calls a _ w rfl).mono fun e w' ⟨he, hd⟩ => ⟨he, hd.below⟩
theorem pAdd (a b : Int) (ha : In64 a) (hb : In64 b) : Gives 18 #[.int .i64 a, .int .i64 b] (.int .i64 (clamp (a + b))) := fun w => (fix_Add.calls 1 a b _ w (add_f a b ha hb 0)).mono fun e w' ⟨he, hd⟩ => ⟨he, hd.below⟩
theorem pSub (a b : Int) (ha : In64 a) (hb : In64 b) : Gives 20 #[.int .i64 a, .int .i64 b] (.int .i64 (clamp (a - b))) := fun w => (fix_Sub.calls 1 a b _ w (sub_f a b ha hb 0)).mono fun e w' ⟨he, hd⟩ => ⟨he, hd.below⟩
theorem pMul (a b : Int) (ha : In64 a) (hb : In64 b) : Gives 22 #[.int .i64 a, .int .i64 b] (.int .i64 (clamp (a * b / 4294967296))) := fun w => (fix_Mul.calls 4 a b _ w (mul_f a b ha hb 0)).mono fun e w' ⟨he, hd⟩ => ⟨he, hd.below⟩

theorem of_g (n : Int) (hn : In64 n) : Gives 28 #[.int .i64 n] (.tuple #[.agg (bn n.natAbs), .bool (decide (n < 0))]) := by
  intro w
  have h63 : (2 : Nat) ^ 63 = 9223372036854775808 := by decide
  unfold In64 at hn
  by_cases c : n < 0
  · have h := of_neg (n.natAbs - 1) (by omega) n c hn.1 (by omega) w
    rw [decide_eq_true c]
    have e : n.natAbs - 1 + 1 = n.natAbs := by omega
    rwa [e] at h
  · obtain ⟨x, rfl⟩ : ∃ x : Nat, n = x := ⟨n.toNat, by omega⟩
    have h := of_pos x (by omega) w
    rw [decide_eq_false c]
    exact h
theorem abs_le (n : Int) (hn : In64 n) : n.natAbs ≤ 9223372036854775808 := by unfold In64 at hn; omega

theorem up_32 (a : Nat) : Gives 30 #[.agg (bn a), .int .i64 32] (.agg (bn (a * 4294967296))) := fun w => up_nat a 32 (by omega) w

theorem held_none (a : Nat) (below : Bool) (ha : a + 1 < 2 ^ 160) : Gives 29 #[.agg (bn a), .bool below, .bool false] (.int .i64 (clamp (signed a below))) := by
  intro w
  have h := held_calls a below false ha w
  rwa [Bool.and_false, Bool.toNat_false, Nat.add_zero] at h
set_option maxHeartbeats 1000000 in
theorem rOf (n : Int) (hn : In64 n) : Gives 15 #[.int .i64 n] (.int .i64 (clamp (n * 4294967296))) := by
  intro w
  have l160 : (170141183460469231731687303715884105728 : Nat) < 2 ^ 160 := by decide
  have hb : n.natAbs * 4294967296 + 1 < 2 ^ 160 := by have := abs_le n hn; omega
  have H1 := hid hn
  have H2 := hid hb
  have hz := zero_big
  have e : clamp (n * 4294967296) = clamp (signed (n.natAbs * 4294967296) (decide (n < 0))) := by
    congr 1
    have := signed_abs n
    unfold signed at *
    split at this <;> simp_all <;> omega
  rw [e]
  clear hn hb e l160
  go_enter Try.func15, Try.ntmps15
  go_wp2_with (first | ((with_reducible refine Arr.arm_load row40 rfl ?_); refine ⟨rfl, _, _, _, _, rfl, by (with_reducible repeat (first | assumption | (refine p1 ?_; (first | omega | (simp <;> omega))) | (refine p2 ?_ ?_; focus (first | omega | (simp <;> omega))) | refine p3 ?_ | refine p4 ?_ | apply p5 | (refine p6 ?_ ?_; focus (first | omega | (simp <;> omega))) | apply p7 | (refine p8 ?_ ?_; focus (first | omega | (simp <;> omega))) | (refine p9 (by assumption) ?_ ?_; focus (first | omega | (simp <;> omega))))), by (first | exact bn_size _ | exact big_size _ | (rw [Array.size_setIfInBounds]; exact bn_size _) | (rw [Array.size_setIfInBounds]; exact big_size _)), ?_⟩; skip) | ((with_reducible refine Arr.arm_store row40 rfl ?_); refine ⟨rfl, _, _, _, _, rfl, rfl, by (with_reducible repeat (first | assumption | (refine p1 ?_; (first | omega | (simp <;> omega))) | (refine p2 ?_ ?_; focus (first | omega | (simp <;> omega))) | refine p3 ?_ | refine p4 ?_ | apply p5 | (refine p6 ?_ ?_; focus (first | omega | (simp <;> omega))) | apply p7 | (refine p8 ?_ ?_; focus (first | omega | (simp <;> omega))) | (refine p9 (by assumption) ?_ ?_; focus (first | omega | (simp <;> omega))))), by (first | exact bn_size _ | exact big_size _ | (rw [Array.size_setIfInBounds]; exact bn_size _) | (rw [Array.size_setIfInBounds]; exact big_size _)), by (first | exact bn_size _ | exact big_size _ | (rw [Array.size_setIfInBounds]; exact bn_size _) | (rw [Array.size_setIfInBounds]; exact big_size _)), by (first | exact bn_one _ | exact big_one _), ?_⟩) | (go_at_call 28; (with_reducible refine (of_g _ H1.out _).mono ?_); rintro e w1 ⟨rfl, hb1⟩; have hz1 := hb1.size; (try simp only [World.size_alloc, World.size_setCell, World.size_drew, setRow_size, Arr.size_drewN] at hz1)) | (go_at_call 30; (with_reducible refine (up_32 _ _).mono ?_); rintro e w2 ⟨rfl, hb2⟩; have hz2 := hb2.size; (try simp only [World.size_alloc, World.size_setCell, World.size_drew, setRow_size, Arr.size_drewN] at hz2)) | (go_at_call 29; (with_reducible refine (held_none _ _ H2.out _).mono ?_); rintro e w3 ⟨rfl, hb3⟩; have hz3 := hb3.size; (try simp only [World.size_alloc, World.size_setCell, World.size_drew, setRow_size, Arr.size_drewN] at hz3)))
  go_ret
  exact ⟨rfl, by (with_reducible repeat (first | assumption | exact Below.refl _ _ | (refine b4 ?_ ?_; focus (first | omega | (simp <;> omega))) | refine b2 ?_ | refine Below.drew ?_ | (refine b5 ?_ ?_; focus (first | omega | (simp <;> omega))) | (refine b1 ?_ ?_; focus (first | omega | (simp <;> omega))) | (refine b3 (by assumption) ?_ ?_; focus (first | omega | (simp <;> omega)))))⟩

set_option maxHeartbeats 1000000 in
theorem rAdd (a b : Int) (ha : In64 a) (hb : In64 b) : Gives 19 #[.int .i64 a, .int .i64 b] (.int .i64 (clamp (a + b))) := by
  intro w
  have H1 := hid ha
  have H2 := hid hb
  have H3 := hid (abs_le a ha)
  have H4 := hid (abs_le b hb)
  have hz := zero_big
  have e : clamp (a + b) = clamp (signed a.natAbs (decide (a < 0)) + signed b.natAbs (decide (b < 0))) := by rw [signed_abs, signed_abs]
  rw [e]
  clear ha hb e
  go_enter Try.func19, Try.ntmps19
  go_wp2_with (first | ((with_reducible refine Arr.arm_load row40 rfl ?_); refine ⟨rfl, _, _, _, _, rfl, by (with_reducible repeat (first | assumption | (refine p1 ?_; (first | omega | (simp <;> omega))) | (refine p2 ?_ ?_; focus (first | omega | (simp <;> omega))) | refine p3 ?_ | refine p4 ?_ | apply p5 | (refine p6 ?_ ?_; focus (first | omega | (simp <;> omega))) | apply p7 | (refine p8 ?_ ?_; focus (first | omega | (simp <;> omega))) | (refine p9 (by assumption) ?_ ?_; focus (first | omega | (simp <;> omega))))), by (first | exact bn_size _ | exact big_size _ | (rw [Array.size_setIfInBounds]; exact bn_size _) | (rw [Array.size_setIfInBounds]; exact big_size _)), ?_⟩; skip) | ((with_reducible refine Arr.arm_store row40 rfl ?_); refine ⟨rfl, _, _, _, _, rfl, rfl, by (with_reducible repeat (first | assumption | (refine p1 ?_; (first | omega | (simp <;> omega))) | (refine p2 ?_ ?_; focus (first | omega | (simp <;> omega))) | refine p3 ?_ | refine p4 ?_ | apply p5 | (refine p6 ?_ ?_; focus (first | omega | (simp <;> omega))) | apply p7 | (refine p8 ?_ ?_; focus (first | omega | (simp <;> omega))) | (refine p9 (by assumption) ?_ ?_; focus (first | omega | (simp <;> omega))))), by (first | exact bn_size _ | exact big_size _ | (rw [Array.size_setIfInBounds]; exact bn_size _) | (rw [Array.size_setIfInBounds]; exact big_size _)), by (first | exact bn_size _ | exact big_size _ | (rw [Array.size_setIfInBounds]; exact bn_size _) | (rw [Array.size_setIfInBounds]; exact big_size _)), by (first | exact bn_one _ | exact big_one _), ?_⟩) | (go_at_call 28; (with_reducible refine (of_g _ H1.out _).mono ?_); rintro e w1 ⟨rfl, hb1⟩; have hz1 := hb1.size; (try simp only [World.size_alloc, World.size_setCell, World.size_drew, setRow_size, Arr.size_drewN] at hz1)) | (go_at_call 28; (with_reducible refine (of_g _ H2.out _).mono ?_); rintro e w2 ⟨rfl, hb2⟩; have hz2 := hb2.size; (try simp only [World.size_alloc, World.size_setCell, World.size_drew, setRow_size, Arr.size_drewN] at hz2)) | (go_at_call 31; (with_reducible refine (sum_calls _ _ _ _ H3.out H4.out _).mono ?_); rintro e w3 ⟨rfl, hb3⟩; have hz3 := hb3.size; (try simp only [World.size_alloc, World.size_setCell, World.size_drew, setRow_size, Arr.size_drewN] at hz3)))
  go_ret
  exact ⟨rfl, by (with_reducible repeat (first | assumption | exact Below.refl _ _ | (refine b4 ?_ ?_; focus (first | omega | (simp <;> omega))) | refine b2 ?_ | refine Below.drew ?_ | (refine b5 ?_ ?_; focus (first | omega | (simp <;> omega))) | (refine b1 ?_ ?_; focus (first | omega | (simp <;> omega))) | (refine b3 (by assumption) ?_ ?_; focus (first | omega | (simp <;> omega)))))⟩

set_option maxHeartbeats 1000000 in
theorem rSub (a b : Int) (ha : In64 a) (hb : In64 b) : Gives 21 #[.int .i64 a, .int .i64 b] (.int .i64 (clamp (a - b))) := by
  intro w
  have H1 := hid ha
  have H2 := hid hb
  have H3 := hid (abs_le a ha)
  have H4 := hid (abs_le b hb)
  have hz := zero_big
  have e : clamp (a - b) = clamp (signed a.natAbs (decide (a < 0)) + signed b.natAbs (!decide (b < 0))) := by
    have h1 := signed_abs a
    have h2 := signed_abs b
    congr 1
    rw [h1]
    unfold signed at *
    by_cases c : b < 0 <;> simp only [c, decide_true, decide_false, Bool.not_true, Bool.not_false, if_true, if_false, Bool.false_eq_true] at * <;> omega
  rw [e]
  clear ha hb e
  go_enter Try.func21, Try.ntmps21
  go_wp2_with (first | ((with_reducible refine Arr.arm_load row40 rfl ?_); refine ⟨rfl, _, _, _, _, rfl, by (with_reducible repeat (first | assumption | (refine p1 ?_; (first | omega | (simp <;> omega))) | (refine p2 ?_ ?_; focus (first | omega | (simp <;> omega))) | refine p3 ?_ | refine p4 ?_ | apply p5 | (refine p6 ?_ ?_; focus (first | omega | (simp <;> omega))) | apply p7 | (refine p8 ?_ ?_; focus (first | omega | (simp <;> omega))) | (refine p9 (by assumption) ?_ ?_; focus (first | omega | (simp <;> omega))))), by (first | exact bn_size _ | exact big_size _ | (rw [Array.size_setIfInBounds]; exact bn_size _) | (rw [Array.size_setIfInBounds]; exact big_size _)), ?_⟩; skip) | ((with_reducible refine Arr.arm_store row40 rfl ?_); refine ⟨rfl, _, _, _, _, rfl, rfl, by (with_reducible repeat (first | assumption | (refine p1 ?_; (first | omega | (simp <;> omega))) | (refine p2 ?_ ?_; focus (first | omega | (simp <;> omega))) | refine p3 ?_ | refine p4 ?_ | apply p5 | (refine p6 ?_ ?_; focus (first | omega | (simp <;> omega))) | apply p7 | (refine p8 ?_ ?_; focus (first | omega | (simp <;> omega))) | (refine p9 (by assumption) ?_ ?_; focus (first | omega | (simp <;> omega))))), by (first | exact bn_size _ | exact big_size _ | (rw [Array.size_setIfInBounds]; exact bn_size _) | (rw [Array.size_setIfInBounds]; exact big_size _)), by (first | exact bn_size _ | exact big_size _ | (rw [Array.size_setIfInBounds]; exact bn_size _) | (rw [Array.size_setIfInBounds]; exact big_size _)), by (first | exact bn_one _ | exact big_one _), ?_⟩) | (go_at_call 28; (with_reducible refine (of_g _ H1.out _).mono ?_); rintro e w1 ⟨rfl, hb1⟩; have hz1 := hb1.size; (try simp only [World.size_alloc, World.size_setCell, World.size_drew, setRow_size, Arr.size_drewN] at hz1)) | (go_at_call 28; (with_reducible refine (of_g _ H2.out _).mono ?_); rintro e w2 ⟨rfl, hb2⟩; have hz2 := hb2.size; (try simp only [World.size_alloc, World.size_setCell, World.size_drew, setRow_size, Arr.size_drewN] at hz2)) | (go_at_call 31; (with_reducible refine (sum_calls _ _ _ _ H3.out H4.out _).mono ?_); rintro e w3 ⟨rfl, hb3⟩; have hz3 := hb3.size; (try simp only [World.size_alloc, World.size_setCell, World.size_drew, setRow_size, Arr.size_drewN] at hz3)))
  go_ret
  exact ⟨rfl, by (with_reducible repeat (first | assumption | exact Below.refl _ _ | (refine b4 ?_ ?_; focus (first | omega | (simp <;> omega))) | refine b2 ?_ | refine Below.drew ?_ | (refine b5 ?_ ?_; focus (first | omega | (simp <;> omega))) | (refine b1 ?_ ?_; focus (first | omega | (simp <;> omega))) | (refine b3 (by assumption) ?_ ?_; focus (first | omega | (simp <;> omega)))))⟩

theorem tdiv_cases (a : Int) : (0 ≤ Int.tmod a 4294967296 → Int.tdiv a 4294967296 = a / 4294967296) ∧ (Int.tmod a 4294967296 < 0 → Int.tdiv a 4294967296 - 1 = a / 4294967296) := by
  have hs : Int.sign 4294967296 = 1 := rfl
  rw [Int.tdiv_eq_ediv, Int.tmod_eq_emod, hs]
  split <;> (simp; omega)
theorem rFloor (a : Int) (ha : In64 a) : Gives 17 #[.int .i64 a] (.int .i64 (a / 4294967296)) := by
  intro w
  have hf : ∃ r, (if (Int.tmod a 4294967296) < 0 then wrap64 (wrap64 (Int.tdiv a 4294967296) - 1) else wrap64 (Int.tdiv a 4294967296)) = r := ⟨_, rfl⟩
  have h2 := tdiv_cases a
  unfold In64 at ha
  obtain ⟨q, hq⟩ : ∃ q, Int.tdiv a 4294967296 = q := ⟨_, rfl⟩
  obtain ⟨r, hr⟩ : ∃ r, Int.tmod a 4294967296 = r := ⟨_, rfl⟩
  rw [hq, hr] at h2
  clear hf
  by_cases c : r < 0
  · have e := h2.2 c
    rw [← e]
    have hd : decide (r < 0) = true := decide_eq_true c
    have hb : -2147483648 ≤ q ∧ q ≤ 2147483648 := by omega
    clear h2 e
    go_enter Try.func17, Try.ntmps17
    go_wp2
    go_ret
    exact ⟨rfl, by (with_reducible repeat (first | assumption | exact Below.refl _ _ | (refine b4 ?_ ?_; focus (first | omega | (simp <;> omega))) | refine b2 ?_ | refine Below.drew ?_ | (refine b5 ?_ ?_; focus (first | omega | (simp <;> omega))) | (refine b1 ?_ ?_; focus (first | omega | (simp <;> omega))) | (refine b3 (by assumption) ?_ ?_; focus (first | omega | (simp <;> omega)))))⟩
  · have e := h2.1 (by omega)
    rw [← e]
    have hd : decide (r < 0) = false := decide_eq_false c
    have hb : -2147483648 ≤ q ∧ q ≤ 2147483648 := by omega
    clear h2 e
    go_enter Try.func17, Try.ntmps17
    go_wp2
    go_ret
    exact ⟨rfl, by (with_reducible repeat (first | assumption | exact Below.refl _ _ | (refine b4 ?_ ?_; focus (first | omega | (simp <;> omega))) | refine b2 ?_ | refine Below.drew ?_ | (refine b5 ?_ ?_; focus (first | omega | (simp <;> omega))) | (refine b1 ?_ ?_; focus (first | omega | (simp <;> omega))) | (refine b3 (by assumption) ?_ ?_; focus (first | omega | (simp <;> omega)))))⟩

set_option maxHeartbeats 1000000 in
theorem law (a b : Int) (W : World) (wa : (Lit.int .i64 a).wf = true) (wb : (Lit.int .i64 b).wf = true) :
    Calls Try.prog 5 #[.int .i64 a, .int .i64 b] W fun e w' => e = .returned (.bool true) ∧ Below W.heap.size W w' := by
  have ha := wf64 a wa
  have hb := wf64 b wb
  have p1 := pOf a ha
  have p2 := rOf a ha
  obtain ⟨x1, e1⟩ : ∃ x, x = clamp (a * 4294967296) := ⟨_, rfl⟩
  rw [← e1] at p1 p2
  have p3 := pFloor a
  have p4 := rFloor a ha
  obtain ⟨x2, e2⟩ : ∃ x, x = a / 4294967296 := ⟨_, rfl⟩
  rw [← e2] at p3 p4
  have p5 := pAdd a b ha hb
  have p6 := rAdd a b ha hb
  obtain ⟨x3, e3⟩ : ∃ x, x = clamp (a + b) := ⟨_, rfl⟩
  rw [← e3] at p5 p6
  have p7 := pSub a b ha hb
  have p8 := rSub a b ha hb
  obtain ⟨x4, e4⟩ : ∃ x, x = clamp (a - b) := ⟨_, rfl⟩
  rw [← e4] at p7 p8
  have P1 := hid p1
  have P2 := hid p2
  have P3 := hid p3
  have P4 := hid p4
  have P5 := hid p5
  have P6 := hid p6
  have P7 := hid p7
  have P8 := hid p8
  have c1 : (x1 == x1) = true := by simp
  have c2 : (x2 == x2) = true := by simp
  have c3 : (x3 == x3) = true := by simp
  have c4 : (x4 == x4) = true := by simp
  clear e1 e2 e3 e4 p1 p2 p3 p4 p5 p6 p7 p8 ha hb wa wb
  go_enter Try.func5, Try.ntmps5
  go_wp2_with (first | (go_at_call 9; (with_reducible refine (awake_g _).mono ?_); rintro e w0 ⟨rfl, hb0⟩; have hz0 := hb0.size; (try simp only [World.size_alloc, World.size_setCell, World.size_drew, setRow_size, Arr.size_drewN] at hz0)) | (go_at_call 14; (with_reducible refine (P1.out _).mono ?_); rintro e w1 ⟨rfl, hb1⟩; have hz1 := hb1.size; (try simp only [World.size_alloc, World.size_setCell, World.size_drew, setRow_size, Arr.size_drewN] at hz1)) | (go_at_call 15; (with_reducible refine (P2.out _).mono ?_); rintro e w2 ⟨rfl, hb2⟩; have hz2 := hb2.size; (try simp only [World.size_alloc, World.size_setCell, World.size_drew, setRow_size, Arr.size_drewN] at hz2)) | (go_at_call 16; (with_reducible refine (P3.out _).mono ?_); rintro e w3 ⟨rfl, hb3⟩; have hz3 := hb3.size; (try simp only [World.size_alloc, World.size_setCell, World.size_drew, setRow_size, Arr.size_drewN] at hz3)) | (go_at_call 17; (with_reducible refine (P4.out _).mono ?_); rintro e w4 ⟨rfl, hb4⟩; have hz4 := hb4.size; (try simp only [World.size_alloc, World.size_setCell, World.size_drew, setRow_size, Arr.size_drewN] at hz4)) | (go_at_call 18; (with_reducible refine (P5.out _).mono ?_); rintro e w5 ⟨rfl, hb5⟩; have hz5 := hb5.size; (try simp only [World.size_alloc, World.size_setCell, World.size_drew, setRow_size, Arr.size_drewN] at hz5)) | (go_at_call 19; (with_reducible refine (P6.out _).mono ?_); rintro e w6 ⟨rfl, hb6⟩; have hz6 := hb6.size; (try simp only [World.size_alloc, World.size_setCell, World.size_drew, setRow_size, Arr.size_drewN] at hz6)) | (go_at_call 20; (with_reducible refine (P7.out _).mono ?_); rintro e w7 ⟨rfl, hb7⟩; have hz7 := hb7.size; (try simp only [World.size_alloc, World.size_setCell, World.size_drew, setRow_size, Arr.size_drewN] at hz7)) | (go_at_call 21; (with_reducible refine (P8.out _).mono ?_); rintro e w8 ⟨rfl, hb8⟩; have hz8 := hb8.size; (try simp only [World.size_alloc, World.size_setCell, World.size_drew, setRow_size, Arr.size_drewN] at hz8)))
  go_ret
  exact ⟨rfl, by (with_reducible repeat (first | assumption | exact Below.refl _ _ | (refine b4 ?_ ?_; focus (first | omega | (simp <;> omega))) | refine b2 ?_ | refine Below.drew ?_ | (refine b5 ?_ ?_; focus (first | omega | (simp <;> omega))) | (refine b1 ?_ ?_; focus (first | omega | (simp <;> omega))) | (refine b3 (by assumption) ?_ ?_; focus (first | omega | (simp <;> omega)))))⟩

end Go.Proofs.Ytbccafpaeplabaa.FixSum
namespace Go.Proofs.Ytbccafpaeplabaa.fixSums
open Go.ChangeShapes Go.WideShapes Go.ChangeAt Go.RowKit
open Go.ChangeMaps (open_string shut_string)
set_option linter.unusedVariables false
theorem own : ownKnob Try.prog.godebug = none := by kernel_rfl
set_option maxRecDepth 100000 in
theorem lifted (os : Os) (started : os.Started) (H : Type) (enc : TypeId × Value → H) :
    ReturnsInHanded {} Try.checked os 5 .any (Rows.fixSumsSpec.pre6 enc Try.prog Try.f5 Rows.fixSumsRow.domain false) (Rows.fixSumsSpec.post enc Try.prog Try.f5 false true false false) := by
  refine returnsInHanded_of_change_sized (C := Try.checked) own started (by kernel_rfl) Try.func5
    (ChangeSpec.witness6 (enc := enc) (C := Try.checked) false ⟨#[], #[.int .i64 0, .int .i64 0], []⟩ 8 (by kernel_rfl) (by kernel_rfl) (by kernel_rfl) (by kernel_rfl)) ?_
  intro W base args ds gs before hval0 hW hcnd hsz0 _
  have hsz : (DataW.weightsEach Try.prog (Try.f5.params.toList ++ Rows.fixSumsSpec.plain.varTypes Try.prog) (ds ++ gs)).all (· ≤ reachBytes) = true := hsz0
  have hval : ∀ (j : Nat) t v, Try.f5.params[j]? = some t → args[j]? = some v → Value.okWide Try.prog W .any base t v := hval0
  have hW' := hW
  obtain ⟨p, q, hA0, hV, rfl, hfz, hnd⟩ := hW
  have hA : DataW.TrodAll enc Try.prog W 0 (fun _ => true) true Try.f5.params.toList args.toList ds p := hA0
  rw [Try.params5] at hA hval hsz
  obtain ⟨v0, vs0, d0, ds0, p0, q0, hargs, rfl, rfl, h0, r0⟩ := trodAll_cons hA
  obtain ⟨v1, vs1, d1, ds1, p1, q1, rfl, rfl, rfl, h1, r1⟩ := trodAll_cons r0
  obtain ⟨rfl, rfl, rfl⟩ := trodAll_nil r1
  obtain rfl : args = #[v0, v1] := by cases args; simp_all
  obtain ⟨rfl, rfl⟩ := trodVars_none hV
  obtain ⟨a0, rfl, rfl, rfl, w0⟩ := open_int Try.underlying2 (hval 0 2 v0 rfl rfl) h0
  obtain ⟨a1, rfl, rfl, rfl, w1⟩ := open_int Try.underlying2 (hval 1 2 v1 rfl rfl) h1
  clear hA0 hval0 hsz0 hsz
  refine (FixSum.law a0 a1 W w0 w1).mono fun e W' ⟨he, bel⟩ => ?_
  subst he
  exact ⟨_, rfl, _, _, _, [], _, [], hW', trodAll_mk1 (shut_bool Try.underlying4 _), (trodAll_cons_mk (shut_int Try.underlying2 w0) (trodAll_cons_mk (shut_int Try.underlying2 w1) trodAll_mk0)), rfl, bel.frame _, fun h => by cases h⟩
theorem over : Rows.fixSumsRow.holds Try.pinned (OpenSpec.ofChange Rows.fixSumsSpec) :=
  OpenClaim.holds_of_wide 5 Try.f5 rfl rfl rfl rfl rfl rfl rfl ⟨rfl, rfl, rfl, rfl, rfl⟩ rfl rfl rfl rfl rfl (by kernel_rfl) Try.func5 (by kernel_rfl)
    (of_decide_eq_true (by kernel_rfl)) (by unfold Func.isWrapper; first | (rw [if_pos (by decide +kernel)]; kernel_rfl) | (rw [if_neg (by decide +kernel)]; exact ⟨rfl, rfl⟩))
    (fun os started H enc _ => lifted os started H enc)
theorem proved : Rows.FixSumsSaid := over
#print axioms proved
end Go.Proofs.Ytbccafpaeplabaa.fixSums
namespace Go.Proofs.Ytbccafpaeplabaa
theorem fixSums_holds : Rows.FixSumsSaid := fixSums.proved
end Go.Proofs.Ytbccafpaeplabaa
