/- Every sine that package fix tells is the chapter's, at most 1 in size, of the opposite sign half a turn further and the same a whole one; for every 64-bit argument. -/
import Derived.Test.YtbccafpaeplabaaRows
import Derived.WalkKit
import Derived.ProofKit
import Derived.OpenShut
import Derived.ShutString
import Derived.ChangeOld
import Derived.Below
import Derived.SizedLaws
import Derived.Test.YtbccafpaeplabaaPureFixRoots
namespace Go.Proofs.Ytbccafpaeplabaa.Sines
open Go.RowKit Go.Proofs.Ytbccafpaeplabaa.PFixRoots Go.Proofs.YtbccafpaeplabaaW.PrintWords Go.Proofs.YtbccafpaeplabaaW.PrintLast
set_option linter.unusedVariables false

theorem hid {p : Prop} (h : p) : Hid p := h

theorem ret_int {k : IntKind} {a b : Int} (h : a = b) : Ending.returned (.int k a) = .returned (.int k b) := by rw [h]

theorem i64_and_1023 (n : Int) : Go.bits .and .i64 n 1023 = n % 1024 := by
  have h127 : (BitVec.ofInt 64 1023).toNat = 2 ^ 10 - 1 := by decide
  have key : (BitVec.ofInt 64 n &&& BitVec.ofInt 64 1023).toNat = (n % ((2 ^ 64 : Nat) : Int)).toNat % 2 ^ 10 := by
    rw [BitVec.toNat_and, BitVec.toNat_ofInt, h127, Nat.and_two_pow_sub_one_eq_mod]
  show IntKind.i64.wrap ((BitVec.ofInt 64 n &&& BitVec.ofInt 64 1023).toNat : Nat) = n % 1024
  rw [key, IntKind.wrap_i64]
  omega
theorem i64_and_511 (n : Int) : Go.bits .and .i64 n 511 = n % 512 := by
  have h127 : (BitVec.ofInt 64 511).toNat = 2 ^ 9 - 1 := by decide
  have key : (BitVec.ofInt 64 n &&& BitVec.ofInt 64 511).toNat = (n % ((2 ^ 64 : Nat) : Int)).toNat % 2 ^ 9 := by
    rw [BitVec.toNat_and, BitVec.toNat_ofInt, h127, Nat.and_two_pow_sub_one_eq_mod]
  show IntKind.i64.wrap ((BitVec.ofInt 64 n &&& BitVec.ofInt 64 511).toNat : Nat) = n % 512
  rw [key, IntKind.wrap_i64]
  omega

/-- The size of a sine, at h below 512. -/
def arch (h : Int) : Int := 16 * (h * (512 - h)) * 4294967296 / (1310720 - 4 * (h * (512 - h)))
/-- The sine at t from 0 to 1023. -/
def sineT (t : Int) : Int := if t ≥ 512 then -arch (t % 512) else arch (t % 512)

theorem p_bounds (h : Int) (h0 : 0 ≤ h) (h1 : h < 512) : 0 ≤ h * (512 - h) ∧ h * (512 - h) ≤ 65536 := by
  constructor
  · exact Int.mul_nonneg h0 (by omega)
  · have : 0 ≤ (256 - h) * (256 - h) := by
      rcases Int.le_total 0 (256 - h) with c | c
      · exact Int.mul_nonneg c c
      · exact Int.mul_nonneg_of_nonpos_of_nonpos c c
    grind

theorem arch_bounds (h : Int) (h0 : 0 ≤ h) (h1 : h < 512) : 0 ≤ arch h ∧ arch h ≤ 4294967296 := by
  obtain ⟨a, b⟩ := p_bounds h h0 h1
  unfold arch
  generalize h * (512 - h) = p at *
  constructor
  · exact Int.ediv_nonneg (by omega) (by omega)
  · exact Int.le_of_lt_add_one (Int.ediv_lt_of_lt_mul (by omega) (by omega))

theorem chain (h : Int) (h0 : 0 ≤ h) (h1 : h < 512) : wrap64 (512 - h) = 512 - h ∧ wrap64 (h * (512 - h)) = h * (512 - h) ∧
    wrap64 (1310720 - wrap64 (4 * (h * (512 - h)))) = 1310720 - 4 * (h * (512 - h)) ∧ 1310720 - 4 * (h * (512 - h)) ≠ 0 ∧
    wrap64 (Int.tdiv (wrap64 (wrap64 (16 * (h * (512 - h))) * 4294967296)) (1310720 - 4 * (h * (512 - h)))) = arch h ∧ wrap64 (-arch h) = -arch h := by
  obtain ⟨a, b⟩ := p_bounds h h0 h1
  have hb := arch_bounds h h0 h1
  have e0 : wrap64 (512 - h) = 512 - h := by unfold wrap64; omega
  have e3 : wrap64 (-arch h) = -arch h := by unfold wrap64; omega
  refine ⟨e0, ?_⟩
  unfold arch at *
  generalize h * (512 - h) = p at *
  refine ⟨by unfold wrap64; omega, ?_, by omega, ?_, e3⟩
  · have : wrap64 (4 * p) = 4 * p := by unfold wrap64; omega
    rw [this]; unfold wrap64; omega
  · have e1 : wrap64 (16 * p) = 16 * p := by unfold wrap64; omega
    have e2 : wrap64 (16 * p * 4294967296) = 16 * p * 4294967296 := by unfold wrap64; omega
    rw [e1, e2, Int.tdiv_eq_ediv_of_nonneg (by omega)]
    unfold wrap64; omega

theorem sine_f (a : Int) : fix_Sine.f a = some (sineT (a % 1024)) := by
  unfold fix_Sine.f sineT
  rw [i64_and_1023, i64_and_511]
  obtain ⟨e0, e1, e2, e3, e4, e5⟩ := chain (a % 1024 % 512) (by omega) (by omega)
  rw [e0, e1, e2, e4, e5, if_neg e3]
  split <;> rfl

theorem sine_calls (a : Int) (w : World) : Calls Try.prog 12 #[.int .i64 a] w fun e w' => e = .returned (.int .i64 (sineT (a % 1024))) ∧ Drawn0 w w' :=
  fix_Sine.calls a _ w (sine_f a)

theorem sineT_bounds (t : Int) : -4294967296 ≤ sineT t ∧ sineT t ≤ 4294967296 := by
  have := arch_bounds (t % 512) (by omega) (by omega)
  unfold sineT; split <;> omega

/-- The reference's rest for a turn taken modulo 1024. -/
theorem ref_end (u : Int) (h0 : 0 ≤ u) (h1 : u < 1024) :
    (if u ≥ 512 then wrap64 (-wrap64 (Int.tdiv (wrap64 (wrap64 (16 * wrap64 (u % 512 * (512 - u % 512))) * 4294967296)) (wrap64 (1310720 - wrap64 (4 * wrap64 (u % 512 * (512 - u % 512)))))))
      else wrap64 (Int.tdiv (wrap64 (wrap64 (16 * wrap64 (u % 512 * (512 - u % 512))) * 4294967296)) (wrap64 (1310720 - wrap64 (4 * wrap64 (u % 512 * (512 - u % 512))))))) = sineT u := by
  obtain ⟨e0, e1, e2, e3, e4, e5⟩ := chain (u % 512) (by omega) (by omega)
  unfold sineT
  rw [e1, e2, e4, e5]

theorem ref_ne (u : Int) (h0 : 0 ≤ u) (h1 : u < 1024) : ¬ wrap64 (1310720 - wrap64 (4 * wrap64 (u % 512 * (512 - u % 512)))) = 0 := by
  obtain ⟨e0, e1, e2, e3, e4, e5⟩ := chain (u % 512) (by omega) (by omega)
  rw [e1, e2]; exact e3

set_option maxHeartbeats 1000000 in
theorem ref_pos (a u : Int) (w : World) (ha : -9223372036854775808 ≤ a ∧ a ≤ 9223372036854775807) (he : Int.tmod a 1024 = u) (h0 : 0 ≤ u) (h1 : u < 1024) :
    Calls Try.prog 13 #[.int .i64 a] w fun e w' => e = .returned (.int .i64 (sineT u)) ∧ Drawn0 w w' := by
  have hr := ref_end u h0 h1
  have hn := ref_ne u h0 h1
  have HR := hid hr
  clear hr
  by_cases c : u ≥ 512
  · have c' : decide (512 ≤ u) = true := decide_eq_true c
    go_enter Try.func13, Try.ntmps13
    go_wp2
    go_ret
    have := HR.out; rw [if_pos (by omega)] at this; exact ⟨ret_int this, Drawn0.refl _⟩
  · have c' : decide (512 ≤ u) = false := decide_eq_false c
    go_enter Try.func13, Try.ntmps13
    go_wp2
    go_ret
    have := HR.out; rw [if_neg (by omega)] at this; exact ⟨ret_int this, Drawn0.refl _⟩

set_option maxHeartbeats 1000000 in
theorem ref_neg (a u : Int) (w : World) (ha : -9223372036854775808 ≤ a ∧ a ≤ 9223372036854775807) (he : Int.tmod a 1024 = u - 1024) (h0 : 0 < u) (h1 : u < 1024) :
    Calls Try.prog 13 #[.int .i64 a] w fun e w' => e = .returned (.int .i64 (sineT u)) ∧ Drawn0 w w' := by
  have hr := ref_end u (by omega) h1
  have hn := ref_ne u (by omega) h1
  have hs : u - 1024 + 1024 = u := by omega
  have hd : decide (u - 1024 < 0) = true := decide_eq_true (by omega)
  have HR := hid hr
  clear hr
  by_cases c : u ≥ 512
  · have c' : decide (512 ≤ u) = true := decide_eq_true c
    go_enter Try.func13, Try.ntmps13
    go_wp2
    go_ret
    have := HR.out; rw [if_pos (by omega)] at this; exact ⟨ret_int this, Drawn0.refl _⟩
  · have c' : decide (512 ≤ u) = false := decide_eq_false c
    go_enter Try.func13, Try.ntmps13
    go_wp2
    go_ret
    have := HR.out; rw [if_neg (by omega)] at this; exact ⟨ret_int this, Drawn0.refl _⟩

theorem tmod_cases (a : Int) : (0 ≤ Int.tmod a 1024 → Int.tmod a 1024 = a % 1024) ∧ (Int.tmod a 1024 < 0 → Int.tmod a 1024 = a % 1024 - 1024 ∧ 0 < a % 1024) := by
  rw [Int.tmod_eq_emod]
  split <;> (simp; omega)

theorem ref_calls (a : Int) (w : World) (ha : -9223372036854775808 ≤ a ∧ a ≤ 9223372036854775807) :
    Calls Try.prog 13 #[.int .i64 a] w fun e w' => e = .returned (.int .i64 (sineT (a % 1024))) ∧ Drawn0 w w' := by
  by_cases c : 0 ≤ Int.tmod a 1024
  · have := (tmod_cases a).1 c
    exact ref_pos a _ w ha this (by omega) (by omega)
  · have := (tmod_cases a).2 (by omega)
    exact ref_neg a _ w ha this.1 this.2 (by omega)

theorem awake_calls (w : World) : Calls Try.prog 9 #[] w fun e w' => e = .returned (.bool true) ∧ Drawn0 w w' := by
  obtain ⟨k, hk⟩ := Pure.awake_ev
  exact skirmishlaw03_awake.calls k true w (hk k (Nat.le_refl k))

set_option maxHeartbeats 1000000 in
theorem law_calls (a : Int) (w : World) (ha : -9223372036854775808 ≤ a ∧ a ≤ 9223372036854775807) :
    Calls Try.prog 4 #[.int .i64 a] w fun e w' => e = .returned (.bool true) ∧ Drawn0 w w' := by
  have b1 := sineT_bounds (a % 1024)
  obtain ⟨s, hs⟩ : ∃ s, s = sineT (a % 1024) := ⟨_, rfl⟩
  obtain ⟨t, ht⟩ : ∃ t, t = Int.tmod a 1000000 := ⟨_, rfl⟩
  have bt : -1000000 < t ∧ t < 1000000 := by
    rw [ht]; exact ⟨Int.lt_tmod_of_pos a (by decide), Int.tmod_lt_of_pos a (by decide)⟩
  have e1 : sineT ((t + 512) % 1024) = - sineT (t % 1024) := by
    unfold sineT
    have : (t + 512) % 1024 % 512 = t % 1024 % 512 := by omega
    rw [this]
    split <;> split <;> omega
  have e2 : sineT ((t + 1024) % 1024) = sineT (t % 1024) := by congr 1; omega
  have s1 : ∀ w : World, Calls Try.prog 12 #[.int .i64 a] w fun e w' => e = .returned (.int .i64 s) ∧ Drawn0 w w' := by
    intro w; rw [hs]; exact sine_calls a w
  have s2 : ∀ w : World, Calls Try.prog 13 #[.int .i64 a] w fun e w' => e = .returned (.int .i64 s) ∧ Drawn0 w w' := by
    intro w; rw [hs]; exact ref_calls a w ha
  obtain ⟨q, hq⟩ : ∃ q, q = sineT (t % 1024) := ⟨_, rfl⟩
  have bq : -4294967296 ≤ q ∧ q ≤ 4294967296 := by rw [hq]; exact sineT_bounds _
  have s3 : ∀ w : World, Calls Try.prog 12 #[.int .i64 t] w fun e w' => e = .returned (.int .i64 q) ∧ Drawn0 w w' := by
    intro w; rw [hq]; exact sine_calls t w
  have s4 : ∀ w : World, Calls Try.prog 12 #[.int .i64 (t + 512)] w fun e w' => e = .returned (.int .i64 (-q)) ∧ Drawn0 w w' := by
    intro w; rw [hq, ← e1]; exact sine_calls _ w
  have s5 : ∀ w : World, Calls Try.prog 12 #[.int .i64 (t + 1024)] w fun e w' => e = .returned (.int .i64 q) ∧ Drawn0 w w' := by
    intro w; rw [hq, ← e2]; exact sine_calls _ w
  rw [← hs] at b1
  have ht' : Int.tmod a 1000000 = t := ht.symm
  clear hs ht e1 e2 hq
  have c1 : (s != s) = false := by simp
  have c2 : decide (4294967296 < s) = false := decide_eq_false (by omega)
  have c3 : decide (s < -4294967296) = false := decide_eq_false (by omega)
  have S1 := hid s1
  have S2 := hid s2
  have S3 := hid s3
  have S4 := hid s4
  have S5 := hid s5
  clear s1 s2 s3 s4 s5
  go_enter Try.func4, Try.ntmps4
  go_wp2_with (first | (go_at_call 9; refine (awake_calls _).mono ?_; rintro e w' ⟨rfl, ⟨nd, rfl⟩⟩) | (go_at_call 12; (with_reducible refine (S1.out _).mono ?_); rintro e w' ⟨rfl, ⟨nd, rfl⟩⟩) | (go_at_call 13; (with_reducible refine (S2.out _).mono ?_); rintro e w' ⟨rfl, ⟨nd, rfl⟩⟩) | (go_at_call 12; (with_reducible refine (S3.out _).mono ?_); rintro e w' ⟨rfl, ⟨nd, rfl⟩⟩) | (go_at_call 12; (with_reducible refine (S4.out _).mono ?_); rintro e w' ⟨rfl, ⟨nd, rfl⟩⟩) | (go_at_call 12; (with_reducible refine (S5.out _).mono ?_); rintro e w' ⟨rfl, ⟨nd, rfl⟩⟩))
  go_ret
  exact ⟨rfl, ⟨⟨_, rfl⟩⟩⟩

theorem bounds (a : Int) (hw : (Lit.int .i64 a).wf = true) : -9223372036854775808 ≤ a ∧ a ≤ 9223372036854775807 := by
  simp [Lit.wf, IntKind.min, IntKind.max, IntKind.signed, IntKind.bits] at hw; omega

end Go.Proofs.Ytbccafpaeplabaa.Sines
namespace Go.Proofs.Ytbccafpaeplabaa.fixSines
open Go.ChangeShapes Go.WideShapes Go.ChangeAt Go.RowKit
open Go.ChangeMaps (open_string shut_string)
set_option linter.unusedVariables false
theorem own : ownKnob Try.prog.godebug = none := by kernel_rfl
set_option maxRecDepth 100000 in
theorem lifted (os : Os) (started : os.Started) (H : Type) (enc : TypeId × Value → H) :
    ReturnsInHanded {} Try.checked os 4 .any (Rows.fixSinesSpec.pre6 enc Try.prog Try.f4 Rows.fixSinesRow.domain false) (Rows.fixSinesSpec.post enc Try.prog Try.f4 false true false false) := by
  refine returnsInHanded_of_change_sized (C := Try.checked) own started (by kernel_rfl) Try.func4
    (ChangeSpec.witness6 (enc := enc) (C := Try.checked) false ⟨#[], #[.int .i64 0], []⟩ 8 (by kernel_rfl) (by kernel_rfl) (by kernel_rfl) (by kernel_rfl)) ?_
  intro W base args ds gs before hval0 hW hcnd hsz0 _
  have hsz : (DataW.weightsEach Try.prog (Try.f4.params.toList ++ Rows.fixSinesSpec.plain.varTypes Try.prog) (ds ++ gs)).all (· ≤ reachBytes) = true := hsz0
  have hval : ∀ (j : Nat) t v, Try.f4.params[j]? = some t → args[j]? = some v → Value.okWide Try.prog W .any base t v := hval0
  have hW' := hW
  obtain ⟨p, q, hA0, hV, rfl, hfz, hnd⟩ := hW
  have hA : DataW.TrodAll enc Try.prog W 0 (fun _ => true) true Try.f4.params.toList args.toList ds p := hA0
  rw [Try.params4] at hA hval hsz
  obtain ⟨v0, vs0, d0, ds0, p0, q0, hargs, rfl, rfl, h0, r0⟩ := trodAll_cons hA
  obtain ⟨rfl, rfl, rfl⟩ := trodAll_nil r0
  obtain rfl : args = #[v0] := by cases args; simp_all
  obtain ⟨rfl, rfl⟩ := trodVars_none hV
  obtain ⟨a0, rfl, rfl, rfl, w0⟩ := open_int Try.underlying2 (hval 0 2 v0 rfl rfl) h0
  clear hA0 hval0 hsz0 hsz
  refine (Sines.law_calls a0 W (Sines.bounds a0 w0)).mono fun e W' ⟨he, bel0⟩ => ?_
  have bel := bel0.below
  subst he
  exact ⟨_, rfl, _, _, _, [], _, [], hW', trodAll_mk1 (shut_bool Try.underlying4 _), (trodAll_cons_mk (shut_int Try.underlying2 w0) trodAll_mk0), rfl, bel.frame _, fun h => by cases h⟩
theorem over : Rows.fixSinesRow.holds Try.pinned (OpenSpec.ofChange Rows.fixSinesSpec) :=
  OpenClaim.holds_of_wide 4 Try.f4 rfl rfl rfl rfl rfl rfl rfl ⟨rfl, rfl, rfl, rfl, rfl⟩ rfl rfl rfl rfl rfl (by kernel_rfl) Try.func4 (by kernel_rfl)
    (of_decide_eq_true (by kernel_rfl)) (by unfold Func.isWrapper; first | (rw [if_pos (by decide +kernel)]; kernel_rfl) | (rw [if_neg (by decide +kernel)]; exact ⟨rfl, rfl⟩))
    (fun os started H enc _ => lifted os started H enc)
theorem proved : Rows.FixSinesSaid := over
#print axioms proved
end Go.Proofs.Ytbccafpaeplabaa.fixSines
namespace Go.Proofs.Ytbccafpaeplabaa
/-- The row, under a short name, for the claim. -/
theorem fixSines_holds : Rows.FixSinesSaid := fixSines.proved
end Go.Proofs.Ytbccafpaeplabaa

