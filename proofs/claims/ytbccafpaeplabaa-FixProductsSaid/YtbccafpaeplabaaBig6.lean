/- Every product and quotient that package fix tells is the exact one, rounded down, held at the ends, and nothing is divided by 0; for all 64-bit arguments. -/
import Derived.Test.YtbccafpaeplabaaBig7
import Derived.Deep.DeepCutAuto
import Derived.Deep.CutBlock
namespace Go.Proofs.Ytbccafpaeplabaa.FixMul
open Go.RowKit Go.Proofs.Ytbccafpaeplabaa.PFixOrder Go.Proofs.YtbccafpaeplabaaW.PrintWords Go.Proofs.YtbccafpaeplabaaW.PrintLast Go.Proofs.Ytbccafpaeplabaa.Val Go.Proofs.Ytbccafpaeplabaa.FixVal Go.Proofs.Ytbccafpaeplabaa.Big Go.Proofs.Ytbccafpaeplabaa.Arr Go.Proofs.Ytbccafpaeplabaa.FixSum
open Go.Proofs.Ytbccafpaeplabaa
set_option linter.unusedVariables false
set_option linter.unusedSimpArgs false
set_option maxRecDepth 100000

/-! ### The program's own quotients -/
theorem size_g (n : Int) (hn : In64 n) : Gives 26 #[.int .i64 n] (.tuple #[.int .u64 (n.natAbs : Int), .bool (decide (n < 0))]) := fun w => (fix_size.calls n _ _ w (size_f n hn)).mono fun e w' ⟨he, hd⟩ => ⟨he, hd.below⟩
theorem pHeld (hi lo : Nat) (below more : Bool) (h1 : hi < 9223372036854775808) (l1 : lo < 18446744073709551616) : Gives 27 #[.int .u64 hi, .int .u64 lo, .bool below, .bool more] (.int .i64 (clamp (signed (hi * 18446744073709551616 + lo + (below && more).toNat) below))) := fun w =>
  (fix_held.calls 4 hi lo below more _ w (held_f hi lo below more _ (by omega) (by omega) (by omega) (by omega) (by omega))).mono fun e w' ⟨he, hd⟩ => ⟨he, hd.below⟩
theorem pDiv0 (a : Int) : Gives 23 #[.int .i64 a, .int .i64 0] (.tuple #[.int .i64 0, .int .i64 2]) := by
  intro w
  go_enter Try.func23, Try.ntmps23
  go_wp2
  go_ret2
  exact ⟨rfl, by (with_reducible repeat (first | assumption | exact Below.refl _ _ | (refine b4 ?_ ?_; focus (first | omega | (simp <;> omega))) | refine b2 ?_ | refine Below.drew ?_ | (refine b5 ?_ ?_; focus (first | omega | (simp <;> omega))) | (refine b1 ?_ ?_; focus (first | omega | (simp <;> omega))) | (refine b3 (by assumption) ?_ ?_; focus (first | omega | (simp <;> omega)))))⟩

set_option maxHeartbeats 4000000 in
theorem pDiv (a b : Int) (ha : In64 a) (hb : In64 b) (hb0 : b ≠ 0) : Gives 23 #[.int .i64 a, .int .i64 b] (.tuple #[.int .i64 (clamp (signed (a.natAbs * 4294967296) (decide (a < 0) != decide (b < 0)) / (b.natAbs : Int))), .int .i64 0]) := by
  intro w
  have hal := abs_le a ha
  have hbl := abs_le b hb
  have H1 := hid ha
  have H2 := hid hb
  obtain ⟨x, hx⟩ : ∃ x, x = a.natAbs := ⟨_, rfl⟩
  obtain ⟨y, hy⟩ : ∃ y, y = b.natAbs := ⟨_, rfl⟩
  have hy0 : 0 < y := by omega
  have hyb : y < 18446744073709551616 := by omega
  have hxb : x ≤ 9223372036854775808 := by omega
  have hval := rest_val (x * 4294967296) y hy0 (decide (a < 0) != decide (b < 0)) _ rfl
  obtain ⟨h, hh⟩ : ∃ h, h = x / 4294967296 := ⟨_, rfl⟩
  obtain ⟨l, hl⟩ : ∃ l, l = x * 4294967296 % 18446744073709551616 := ⟨_, rfl⟩
  have e1 : (x : Int) / 4294967296 = (h : Int) := by rw [hh]; simp
  have e2 : IntKind.u64.wrap ((x : Int) * 4294967296) = (l : Int) := by rw [u64_mod, hl]; simp
  obtain ⟨t, ht⟩ : ∃ t, t = h / y := ⟨_, rfl⟩
  obtain ⟨g, hg⟩ : ∃ g, g = h % y := ⟨_, rfl⟩
  have e3 : (h : Int) / (y : Int) = (t : Int) := by rw [ht]; simp
  have e4 : (h : Int) % (y : Int) = (g : Int) := by rw [hg]; simp
  have htl : t ≤ h := by rw [ht]; exact Nat.div_le_self _ _
  have hgy : g < y := by rw [hg]; exact Nat.mod_lt _ hy0
  obtain ⟨q, hq⟩ : ∃ q, q = (g * 18446744073709551616 + l) / y := ⟨_, rfl⟩
  obtain ⟨r, hr⟩ : ∃ r, r = (g * 18446744073709551616 + l) % y := ⟨_, rfl⟩
  have hl64 : l < 18446744073709551616 := by omega
  have hX : x * 4294967296 = h * 18446744073709551616 + l := by omega
  have hX2 : x * 4294967296 = y * (t * 18446744073709551616) + (g * 18446744073709551616 + l) := by
    have hd := Nat.div_add_mod h y
    rw [← ht, ← hg] at hd
    rw [hX, ← hd, Nat.add_mul, Nat.mul_assoc, Nat.add_assoc]
  have hdiv : x * 4294967296 / y = t * 18446744073709551616 + q := by rw [hX2, Nat.mul_add_div hy0, ← hq]
  have hmod : x * 4294967296 % y = r := by rw [hX2, Nat.mul_add_mod y, ← hr]
  rw [hdiv, hmod] at hval
  rw [← hx, ← hy, ← hval]
  rw [bne_form]
  simp only [ne_eq, decide_not]
  have hq64 : q < 18446744073709551616 := by
    rw [hq, Nat.div_lt_iff_lt_mul hy0]
    have : (g + 1) * 18446744073709551616 ≤ 18446744073709551616 * y := by rw [Nat.mul_comm]; exact Nat.mul_le_mul_left _ hgy
    omega
  have hr64 : r < y := by rw [hr]; exact Nat.mod_lt _ hy0
  have hmore : ((r : Int) != 0) = decide (r ≠ 0) := by rw [Bool.eq_iff_iff]; simp
  have D := hid (fun w => Div.div64 g l y hgy hyb hl64 w)
  rw [← hq, ← hr] at D
  have hbe : (b == 0) = false := by simpa using hb0
  have hyn : ¬ y = 0 := by omega
  have HT : t < 9223372036854775808 := by omega
  have P1 := size_g a ha
  have P2 := size_g b hb
  rw [← hx] at P1
  rw [← hy] at P2
  have S1 := hid P1
  have S2 := hid P2
  have hh0 := pHeld t q (!(decide (a < 0) == decide (b < 0))) (!decide (r = 0)) HT hq64
  have HH := hid hh0
  clear hh0
  have hhb : h ≤ 2147483648 := by omega
  clear P1 P2 hval hX hX2 hdiv hmod hq hr hq64 ht hg hl hh hx hy hb0 ha hb hal hgy hr64 HT
  go_enter Try.func23, Try.ntmps23
  go_wp2_with (first | (go_at_call 26; (with_reducible refine (S1.out _).mono ?_); rintro e w1 ⟨rfl, hb1⟩; have hz1 := hb1.size; (try simp only [World.size_alloc, World.size_setCell, World.size_drew, setRow_size, Arr.size_drewN] at hz1)) | (go_at_call 26; (with_reducible refine (S2.out _).mono ?_); rintro e w2 ⟨rfl, hb2⟩; have hz2 := hb2.size; (try simp only [World.size_alloc, World.size_setCell, World.size_drew, setRow_size, Arr.size_drewN] at hz2)) | (go_at_call 33; (with_reducible refine (D.out _).mono ?_); rintro e w3 ⟨rfl, hb3⟩; have hz3 := hb3.size; (try simp only [World.size_alloc, World.size_setCell, World.size_drew, setRow_size, Arr.size_drewN] at hz3)) | (go_at_call 27; (with_reducible refine (HH.out _).mono ?_); rintro e w4 ⟨rfl, hb4⟩; have hz4 := hb4.size; (try simp only [World.size_alloc, World.size_setCell, World.size_drew, setRow_size, Arr.size_drewN] at hz4)))
  go_ret2
  exact ⟨rfl, by (with_reducible repeat (first | assumption | exact Below.refl _ _ | (refine b4 ?_ ?_; focus (first | omega | (simp <;> omega))) | refine b2 ?_ | refine Below.drew ?_ | (refine b5 ?_ ?_; focus (first | omega | (simp <;> omega))) | (refine b1 ?_ ?_; focus (first | omega | (simp <;> omega))) | (refine b3 (by assumption) ?_ ?_; focus (first | omega | (simp <;> omega)))))⟩


theorem mul_val (a b : Int) : signed (a.natAbs * b.natAbs) (decide (a < 0) != decide (b < 0)) = a * b := by
  have e1 := signed_abs a
  have e2 := signed_abs b
  unfold signed at *
  by_cases c1 : a < 0 <;> by_cases c2 : b < 0 <;> simp only [c1, c2, decide_true, decide_false, if_true, if_false, Bool.false_eq_true, bne_self_eq_false, Bool.bne_true, Bool.bne_false, Bool.not_false, Int.natCast_mul] at * <;> (conv => rhs; rw [← e1, ← e2]) <;> grind

set_option maxHeartbeats 2000000 in
theorem products (a b : Int) (W : World) (wa : (Lit.int .i64 a).wf = true) (wb : (Lit.int .i64 b).wf = true) :
    Calls Try.prog 7 #[.int .i64 a, .int .i64 b] W fun e w' => e = .returned (.bool true) ∧ Below W.heap.size W w' := by
  have ha := wf64 a wa
  have hb := wf64 b wb
  have p1 := pMul a b ha hb
  have p2 := rMul a b ha hb
  rw [mul_val] at p2
  obtain ⟨x1, e1⟩ : ∃ x, x = clamp (a * b / 4294967296) := ⟨_, rfl⟩
  rw [← e1] at p1 p2
  have P1 := hid p1
  have P2 := hid p2
  have c1 : (x1 == x1) = true := by simp
  clear e1 p1 p2
  by_cases hb0 : b = 0
  · subst hb0
    have P3 := hid (pDiv0 a)
    have P4 := hid (rDiv0 a)
    clear ha hb wa wb
    go_enter Try.func7, Try.ntmps7
    go_wp2_with (first | (go_at_call 9; (with_reducible refine (awake_g _).mono ?_); rintro e w0 ⟨rfl, hb0⟩; have hz0 := hb0.size; (try simp only [World.size_alloc, World.size_setCell, World.size_drew, setRow_size, Arr.size_drewN] at hz0)) | (go_at_call 22; (with_reducible refine (P1.out _).mono ?_); rintro e w1 ⟨rfl, hb1⟩; have hz1 := hb1.size; (try simp only [World.size_alloc, World.size_setCell, World.size_drew, setRow_size, Arr.size_drewN] at hz1)) | (go_at_call 25; (with_reducible refine (P2.out _).mono ?_); rintro e w2 ⟨rfl, hb2⟩; have hz2 := hb2.size; (try simp only [World.size_alloc, World.size_setCell, World.size_drew, setRow_size, Arr.size_drewN] at hz2)) | (go_at_call 23; (with_reducible refine (P3.out _).mono ?_); rintro e w3 ⟨rfl, hb3⟩; have hz3 := hb3.size; (try simp only [World.size_alloc, World.size_setCell, World.size_drew, setRow_size, Arr.size_drewN] at hz3)) | (go_at_call 24; (with_reducible refine (P4.out _).mono ?_); rintro e w4 ⟨rfl, hb4⟩; have hz4 := hb4.size; (try simp only [World.size_alloc, World.size_setCell, World.size_drew, setRow_size, Arr.size_drewN] at hz4)))
    go_ret
    exact ⟨rfl, by (with_reducible repeat (first | assumption | exact Below.refl _ _ | (refine b4 ?_ ?_; focus (first | omega | (simp <;> omega))) | refine b2 ?_ | refine Below.drew ?_ | (refine b5 ?_ ?_; focus (first | omega | (simp <;> omega))) | (refine b1 ?_ ?_; focus (first | omega | (simp <;> omega))) | (refine b3 (by assumption) ?_ ?_; focus (first | omega | (simp <;> omega)))))⟩
  · have p3 := pDiv a b ha hb hb0
    have p4 := rDiv a b ha hb hb0
    obtain ⟨x2, e2⟩ : ∃ x, x = clamp (signed (a.natAbs * 4294967296) (decide (a < 0) != decide (b < 0)) / (b.natAbs : Int)) := ⟨_, rfl⟩
    rw [← e2] at p3 p4
    have P3 := hid p3
    have P4 := hid p4
    have c2 : (x2 == x2) = true := by simp
    clear ha hb wa wb hb0 e2 p3 p4
    go_enter Try.func7, Try.ntmps7
    go_wp2_with (first | (go_at_call 9; (with_reducible refine (awake_g _).mono ?_); rintro e w0 ⟨rfl, hb0⟩; have hz0 := hb0.size; (try simp only [World.size_alloc, World.size_setCell, World.size_drew, setRow_size, Arr.size_drewN] at hz0)) | (go_at_call 22; (with_reducible refine (P1.out _).mono ?_); rintro e w1 ⟨rfl, hb1⟩; have hz1 := hb1.size; (try simp only [World.size_alloc, World.size_setCell, World.size_drew, setRow_size, Arr.size_drewN] at hz1)) | (go_at_call 25; (with_reducible refine (P2.out _).mono ?_); rintro e w2 ⟨rfl, hb2⟩; have hz2 := hb2.size; (try simp only [World.size_alloc, World.size_setCell, World.size_drew, setRow_size, Arr.size_drewN] at hz2)) | (go_at_call 23; (with_reducible refine (P3.out _).mono ?_); rintro e w3 ⟨rfl, hb3⟩; have hz3 := hb3.size; (try simp only [World.size_alloc, World.size_setCell, World.size_drew, setRow_size, Arr.size_drewN] at hz3)) | (go_at_call 24; (with_reducible refine (P4.out _).mono ?_); rintro e w4 ⟨rfl, hb4⟩; have hz4 := hb4.size; (try simp only [World.size_alloc, World.size_setCell, World.size_drew, setRow_size, Arr.size_drewN] at hz4)))
    go_ret
    exact ⟨rfl, by (with_reducible repeat (first | assumption | exact Below.refl _ _ | (refine b4 ?_ ?_; focus (first | omega | (simp <;> omega))) | refine b2 ?_ | refine Below.drew ?_ | (refine b5 ?_ ?_; focus (first | omega | (simp <;> omega))) | (refine b1 ?_ ?_; focus (first | omega | (simp <;> omega))) | (refine b3 (by assumption) ?_ ?_; focus (first | omega | (simp <;> omega)))))⟩

end Go.Proofs.Ytbccafpaeplabaa.FixMul
namespace Go.Proofs.Ytbccafpaeplabaa.fixProducts
open Go.ChangeShapes Go.WideShapes Go.ChangeAt Go.RowKit
open Go.ChangeMaps (open_string shut_string)
set_option linter.unusedVariables false
theorem own : ownKnob Try.prog.godebug = none := by kernel_rfl
set_option maxRecDepth 100000 in
theorem lifted (os : Os) (started : os.Started) (H : Type) (enc : TypeId × Value → H) :
    ReturnsInHanded {} Try.checked os 7 .any (Rows.fixProductsSpec.pre6 enc Try.prog Try.f7 Rows.fixProductsRow.domain false) (Rows.fixProductsSpec.post enc Try.prog Try.f7 false true false false) := by
  refine returnsInHanded_of_change_sized (C := Try.checked) own started (by kernel_rfl) Try.func7
    (ChangeSpec.witness6 (enc := enc) (C := Try.checked) false ⟨#[], #[.int .i64 0, .int .i64 0], []⟩ 8 (by kernel_rfl) (by kernel_rfl) (by kernel_rfl) (by kernel_rfl)) ?_
  intro W base args ds gs before hval0 hW hcnd hsz0 _
  have hsz : (DataW.weightsEach Try.prog (Try.f7.params.toList ++ Rows.fixProductsSpec.plain.varTypes Try.prog) (ds ++ gs)).all (· ≤ reachBytes) = true := hsz0
  have hval : ∀ (j : Nat) t v, Try.f7.params[j]? = some t → args[j]? = some v → Value.okWide Try.prog W .any base t v := hval0
  have hW' := hW
  obtain ⟨p, q, hA0, hV, rfl, hfz, hnd⟩ := hW
  have hA : DataW.TrodAll enc Try.prog W 0 (fun _ => true) true Try.f7.params.toList args.toList ds p := hA0
  rw [Try.params7] at hA hval hsz
  obtain ⟨v0, vs0, d0, ds0, p0, q0, hargs, rfl, rfl, h0, r0⟩ := trodAll_cons hA
  obtain ⟨v1, vs1, d1, ds1, p1, q1, rfl, rfl, rfl, h1, r1⟩ := trodAll_cons r0
  obtain ⟨rfl, rfl, rfl⟩ := trodAll_nil r1
  obtain rfl : args = #[v0, v1] := by cases args; simp_all
  obtain ⟨rfl, rfl⟩ := trodVars_none hV
  obtain ⟨a0, rfl, rfl, rfl, w0⟩ := open_int Try.underlying2 (hval 0 2 v0 rfl rfl) h0
  obtain ⟨a1, rfl, rfl, rfl, w1⟩ := open_int Try.underlying2 (hval 1 2 v1 rfl rfl) h1
  clear hA0 hval0 hsz0 hsz
  refine (FixMul.products a0 a1 W w0 w1).mono fun e W' ⟨he, bel⟩ => ?_
  subst he
  exact ⟨_, rfl, _, _, _, [], _, [], hW', trodAll_mk1 (shut_bool Try.underlying4 _), (trodAll_cons_mk (shut_int Try.underlying2 w0) (trodAll_cons_mk (shut_int Try.underlying2 w1) trodAll_mk0)), rfl, bel.frame _, fun h => by cases h⟩
theorem over : Rows.fixProductsRow.holds Try.pinned (OpenSpec.ofChange Rows.fixProductsSpec) :=
  OpenClaim.holds_of_wide 7 Try.f7 rfl rfl rfl rfl rfl rfl rfl ⟨rfl, rfl, rfl, rfl, rfl⟩ rfl rfl rfl rfl rfl (by kernel_rfl) Try.func7 (by kernel_rfl)
    (of_decide_eq_true (by kernel_rfl)) (by unfold Func.isWrapper; first | (rw [if_pos (by decide +kernel)]; kernel_rfl) | (rw [if_neg (by decide +kernel)]; exact ⟨rfl, rfl⟩))
    (fun os started H enc _ => lifted os started H enc)
theorem proved : Rows.FixProductsSaid := over
#print axioms proved
end Go.Proofs.Ytbccafpaeplabaa.fixProducts
namespace Go.Proofs.Ytbccafpaeplabaa
theorem fixProducts_holds : Rows.FixProductsSaid := fixProducts.proved
end Go.Proofs.Ytbccafpaeplabaa
