/- A whole number times another one, divided by it again, is the first, where nothing is held; for all 32-bit arguments. -/
import Derived.Test.YtbccafpaeplabaaBig6
namespace Go.Proofs.Ytbccafpaeplabaa.FixBk
open Go.RowKit Go.Proofs.Ytbccafpaeplabaa.PFixOrder Go.Proofs.YtbccafpaeplabaaW.PrintWords Go.Proofs.YtbccafpaeplabaaW.PrintLast Go.Proofs.Ytbccafpaeplabaa.Val Go.Proofs.Ytbccafpaeplabaa.FixVal Go.Proofs.Ytbccafpaeplabaa.Arr Go.Proofs.Ytbccafpaeplabaa.FixSum Go.Proofs.Ytbccafpaeplabaa.FixMul
open Go.Proofs.Ytbccafpaeplabaa
set_option linter.unusedVariables false
set_option linter.unusedSimpArgs false
set_option maxRecDepth 100000

theorem signed_exact (n c : Nat) (hc : 0 < c) (b : Bool) : signed (n * c) b / (c : Int) = signed n b := by
  unfold signed
  have hc' : (c : Int) ≠ 0 := by omega
  cases b
  · simp only [Bool.false_eq_true, if_false, Int.natCast_mul]; exact Int.mul_ediv_cancel _ hc'
  · simp only [if_true, Int.natCast_mul]; rw [← Int.neg_mul]; exact Int.mul_ediv_cancel _ hc'
theorem sign_back (x Y : Int) (hY : Y ≠ 0) : signed x.natAbs (decide (x * Y < 0) != decide (Y < 0)) = x := by
  unfold signed
  rcases Int.lt_trichotomy x 0 with hx | hx | hx
  · rcases Int.lt_trichotomy Y 0 with h | h | h
    · have : 0 < x * Y := Int.mul_pos_of_neg_of_neg hx h
      have h1 : ¬ x * Y < 0 := by omega
      simp only [h, h1, decide_true, decide_false]; simp; omega
    · exact absurd h hY
    · have : x * Y < 0 := Int.mul_neg_of_neg_of_pos hx h
      have h1 : ¬ Y < 0 := by omega
      simp only [this, h1, decide_true, decide_false]; simp; omega
  · subst hx; simp
  · rcases Int.lt_trichotomy Y 0 with h | h | h
    · have : x * Y < 0 := Int.mul_neg_of_pos_of_neg hx h
      simp only [this, h, decide_true]; simp; omega
    · exact absurd h hY
    · have : 0 < x * Y := Int.mul_pos hx h
      have h1 : ¬ x * Y < 0 := by omega
      have h2 : ¬ Y < 0 := by omega
      simp only [h1, h2, decide_false]; simp; omega
theorem signed_scale (n m : Nat) (b : Bool) : signed (n * m) b = signed n b * m := by
  unfold signed; cases b <;> simp [Int.neg_mul]
theorem back_val (x Y : Int) (hY : Y ≠ 0) : signed ((x * Y).natAbs * 4294967296) (decide (x * Y < 0) != decide (Y < 0)) / (Y.natAbs : Int) = x * 4294967296 := by
  have e : (x * Y).natAbs * 4294967296 = x.natAbs * 4294967296 * Y.natAbs := by
    rw [Int.natAbs_mul, Nat.mul_right_comm]
  rw [e, signed_exact _ _ (by omega), signed_scale, sign_back x Y hY]; rfl

theorem wf32 (a : Int) (hw : (Lit.int .i32 a).wf = true) : -2147483648 ≤ a ∧ a ≤ 2147483647 := by
  simp [Lit.wf, IntKind.min, IntKind.max, IntKind.signed, IntKind.bits] at hw; omega

set_option maxHeartbeats 2000000 in
theorem back (a b : Int) (W : World) (wa : (Lit.int .i32 a).wf = true) (wb : (Lit.int .i32 b).wf = true) :
    Calls Try.prog 8 #[.int .i32 a, .int .i32 b] W fun e w' => e = .returned (.bool true) ∧ Below W.heap.size W w' := by
  have ha := wf32 a wa
  have hb := wf32 b wb
  obtain ⟨x, hx⟩ : ∃ x, Int.tmod a 30000 = x := ⟨_, rfl⟩
  obtain ⟨y, hy⟩ : ∃ y, Int.tmod b 30000 = y := ⟨_, rfl⟩
  have bx : -30000 < x ∧ x < 30000 := by rw [← hx]; exact ⟨Int.lt_tmod_of_pos a (by decide), Int.tmod_lt_of_pos a (by decide)⟩
  have bY : -30000 < y ∧ y < 30000 := by rw [← hy]; exact ⟨Int.lt_tmod_of_pos b (by decide), Int.tmod_lt_of_pos b (by decide)⟩
  have ix : In64 x := by unfold In64; omega
  have iy : In64 y := by unfold In64; omega
  have p1 := pOf x ix
  rw [clamp_in _ (by omega)] at p1
  have p2 := pOf y iy
  rw [clamp_in _ (by omega)] at p2
  have P1 := hid p1
  have P2 := hid p2
  by_cases h0 : y = 0
  · have c0 : (y == 0) = true := by simp [h0]
    have P3 := hid (pDiv0 (x * 4294967296))
    clear p1 p2 P2 ix iy h0
    go_enter Try.func8, Try.ntmps8
    go_wp2_with (first | (go_at_call 9; (with_reducible refine (awake_g _).mono ?_); rintro e w0 ⟨rfl, hb0⟩; have hz0 := hb0.size; (try simp only [World.size_alloc, World.size_setCell, World.size_drew, setRow_size, Arr.size_drewN] at hz0)) | (go_at_call 14; (with_reducible refine (P1.out _).mono ?_); rintro e w1 ⟨rfl, hb1⟩; have hz1 := hb1.size; (try simp only [World.size_alloc, World.size_setCell, World.size_drew, setRow_size, Arr.size_drewN] at hz1)) | (go_at_call 23; (with_reducible refine (P3.out _).mono ?_); rintro e w2 ⟨rfl, hb2⟩; have hz2 := hb2.size; (try simp only [World.size_alloc, World.size_setCell, World.size_drew, setRow_size, Arr.size_drewN] at hz2)))
    go_ret
    exact ⟨rfl, by (with_reducible repeat (first | assumption | exact Below.refl _ _ | (refine b4 ?_ ?_; focus (first | omega | (simp <;> omega))) | refine b2 ?_ | refine Below.drew ?_ | (refine b5 ?_ ?_; focus (first | omega | (simp <;> omega))) | (refine b1 ?_ ?_; focus (first | omega | (simp <;> omega))) | (refine b3 (by assumption) ?_ ?_; focus (first | omega | (simp <;> omega)))))⟩
  · have c0 : (y == 0) = false := by simpa using h0
    obtain ⟨m, hm⟩ : ∃ m, x * y = m := ⟨_, rfl⟩
    have bm : -900000000 ≤ m ∧ m ≤ 900000000 := by
      have h1 : (x * y).natAbs ≤ 30000 * 30000 := by rw [Int.natAbs_mul]; exact Nat.mul_le_mul (by omega) (by omega)
      rw [hm] at h1; omega
    have im : In64 m := by unfold In64; omega
    have p3 := pMul (x * 4294967296) (y * 4294967296) (by unfold In64; omega) (by unfold In64; omega)
    have e3 : x * 4294967296 * (y * 4294967296) / 4294967296 = m * 4294967296 := by
      have : x * 4294967296 * (y * 4294967296) = m * 4294967296 * 4294967296 := by rw [← hm]; grind
      rw [this, Int.mul_ediv_cancel _ (by decide)]
    rw [e3, clamp_in _ (by omega)] at p3
    have p4 := pDiv (m * 4294967296) (y * 4294967296) (by unfold In64; omega) (by unfold In64; omega) (by omega)
    have e4 : m * 4294967296 = x * (y * 4294967296) := by rw [← hm, Int.mul_assoc]
    rw [e4, back_val x (y * 4294967296) (by omega), clamp_in _ (by omega), ← e4] at p4
    have p5 := pOf m im
    rw [clamp_in _ (by omega)] at p5
    have p6 := pFloor (m * 4294967296)
    rw [Int.mul_ediv_cancel _ (by decide)] at p6
    have P3 := hid p3
    have P4 := hid p4
    have P5 := hid p5
    have P6 := hid p6
    clear p1 p2 p3 p4 p5 p6 e3 e4 ix iy im h0
    go_enter Try.func8, Try.ntmps8
    go_wp2_with (first | (go_at_call 9; (with_reducible refine (awake_g _).mono ?_); rintro e w0 ⟨rfl, hb0⟩; have hz0 := hb0.size; (try simp only [World.size_alloc, World.size_setCell, World.size_drew, setRow_size, Arr.size_drewN] at hz0)) | (go_at_call 14; (with_reducible refine (P1.out _).mono ?_); rintro e w1 ⟨rfl, hb1⟩; have hz1 := hb1.size; (try simp only [World.size_alloc, World.size_setCell, World.size_drew, setRow_size, Arr.size_drewN] at hz1)) | (go_at_call 14; (with_reducible refine (P2.out _).mono ?_); rintro e w2 ⟨rfl, hb2⟩; have hz2 := hb2.size; (try simp only [World.size_alloc, World.size_setCell, World.size_drew, setRow_size, Arr.size_drewN] at hz2)) | (go_at_call 22; (with_reducible refine (P3.out _).mono ?_); rintro e w3 ⟨rfl, hb3⟩; have hz3 := hb3.size; (try simp only [World.size_alloc, World.size_setCell, World.size_drew, setRow_size, Arr.size_drewN] at hz3)) | (go_at_call 23; (with_reducible refine (P4.out _).mono ?_); rintro e w4 ⟨rfl, hb4⟩; have hz4 := hb4.size; (try simp only [World.size_alloc, World.size_setCell, World.size_drew, setRow_size, Arr.size_drewN] at hz4)) | (go_at_call 14; (with_reducible refine (P5.out _).mono ?_); rintro e w5 ⟨rfl, hb5⟩; have hz5 := hb5.size; (try simp only [World.size_alloc, World.size_setCell, World.size_drew, setRow_size, Arr.size_drewN] at hz5)) | (go_at_call 16; (with_reducible refine (P6.out _).mono ?_); rintro e w6 ⟨rfl, hb6⟩; have hz6 := hb6.size; (try simp only [World.size_alloc, World.size_setCell, World.size_drew, setRow_size, Arr.size_drewN] at hz6)))
    go_ret
    exact ⟨rfl, by (with_reducible repeat (first | assumption | exact Below.refl _ _ | (refine b4 ?_ ?_; focus (first | omega | (simp <;> omega))) | refine b2 ?_ | refine Below.drew ?_ | (refine b5 ?_ ?_; focus (first | omega | (simp <;> omega))) | (refine b1 ?_ ?_; focus (first | omega | (simp <;> omega))) | (refine b3 (by assumption) ?_ ?_; focus (first | omega | (simp <;> omega)))))⟩

end Go.Proofs.Ytbccafpaeplabaa.FixBk
namespace Go.Proofs.Ytbccafpaeplabaa.fixBack
open Go.ChangeShapes Go.WideShapes Go.ChangeAt Go.RowKit
open Go.ChangeMaps (open_string shut_string)
set_option linter.unusedVariables false
theorem own : ownKnob Try.prog.godebug = none := by kernel_rfl
set_option maxRecDepth 100000 in
theorem lifted (os : Os) (started : os.Started) (H : Type) (enc : TypeId × Value → H) :
    ReturnsInHanded {} Try.checked os 8 .any (Rows.fixBackSpec.pre6 enc Try.prog Try.f8 Rows.fixBackRow.domain false) (Rows.fixBackSpec.post enc Try.prog Try.f8 false true false false) := by
  refine returnsInHanded_of_change_sized (C := Try.checked) own started (by kernel_rfl) Try.func8
    (ChangeSpec.witness6 (enc := enc) (C := Try.checked) false ⟨#[], #[.int .i32 0, .int .i32 0], []⟩ 8 (by kernel_rfl) (by kernel_rfl) (by kernel_rfl) (by kernel_rfl)) ?_
  intro W base args ds gs before hval0 hW hcnd hsz0 _
  have hsz : (DataW.weightsEach Try.prog (Try.f8.params.toList ++ Rows.fixBackSpec.plain.varTypes Try.prog) (ds ++ gs)).all (· ≤ reachBytes) = true := hsz0
  have hval : ∀ (j : Nat) t v, Try.f8.params[j]? = some t → args[j]? = some v → Value.okWide Try.prog W .any base t v := hval0
  have hW' := hW
  obtain ⟨p, q, hA0, hV, rfl, hfz, hnd⟩ := hW
  have hA : DataW.TrodAll enc Try.prog W 0 (fun _ => true) true Try.f8.params.toList args.toList ds p := hA0
  rw [Try.params8] at hA hval hsz
  obtain ⟨v0, vs0, d0, ds0, p0, q0, hargs, rfl, rfl, h0, r0⟩ := trodAll_cons hA
  obtain ⟨v1, vs1, d1, ds1, p1, q1, rfl, rfl, rfl, h1, r1⟩ := trodAll_cons r0
  obtain ⟨rfl, rfl, rfl⟩ := trodAll_nil r1
  obtain rfl : args = #[v0, v1] := by cases args; simp_all
  obtain ⟨rfl, rfl⟩ := trodVars_none hV
  obtain ⟨a0, rfl, rfl, rfl, w0⟩ := open_int Try.underlying21 (hval 0 21 v0 rfl rfl) h0
  obtain ⟨a1, rfl, rfl, rfl, w1⟩ := open_int Try.underlying21 (hval 1 21 v1 rfl rfl) h1
  clear hA0 hval0 hsz0 hsz
  refine (FixBk.back a0 a1 W w0 w1).mono fun e W' ⟨he, bel⟩ => ?_
  subst he
  exact ⟨_, rfl, _, _, _, [], _, [], hW', trodAll_mk1 (shut_bool Try.underlying4 _), (trodAll_cons_mk (shut_int Try.underlying21 w0) (trodAll_cons_mk (shut_int Try.underlying21 w1) trodAll_mk0)), rfl, bel.frame _, fun h => by cases h⟩
theorem over : Rows.fixBackRow.holds Try.pinned (OpenSpec.ofChange Rows.fixBackSpec) :=
  OpenClaim.holds_of_wide 8 Try.f8 rfl rfl rfl rfl rfl rfl rfl ⟨rfl, rfl, rfl, rfl, rfl⟩ rfl rfl rfl rfl rfl (by kernel_rfl) Try.func8 (by kernel_rfl)
    (of_decide_eq_true (by kernel_rfl)) (by unfold Func.isWrapper; first | (rw [if_pos (by decide +kernel)]; kernel_rfl) | (rw [if_neg (by decide +kernel)]; exact ⟨rfl, rfl⟩))
    (fun os started H enc _ => lifted os started H enc)
theorem proved : Rows.FixBackSaid := over
#print axioms proved
end Go.Proofs.Ytbccafpaeplabaa.fixBack
namespace Go.Proofs.Ytbccafpaeplabaa
theorem fixBack_holds : Rows.FixBackSaid := fixBack.proved
end Go.Proofs.Ytbccafpaeplabaa
