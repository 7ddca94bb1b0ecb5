/- bits.Div64 answers the quotient and the rest of two words by one, for every high word below the divisor. -/
import Derived.Test.YtbccafpaeplabaaArr
import Derived.Test.YtbccafpaeplabaaShelf
import Derived.Test.YtbccafpaeplabaaDivN
import Derived.Deep.DeepCutAuto
import Derived.Deep.CutBlock
namespace Go.Proofs.Ytbccafpaeplabaa.Div
open Go.RowKit Go.Proofs.Ytbccafpaeplabaa.Arr Go.Proofs Go.Proofs.Ytbccafpaeplabaa.DivN
set_option linter.unusedVariables false
set_option linter.unusedSimpArgs false
set_option maxRecDepth 100000

theorem ret_pair {k l : IntKind} {a b c : Int} (h : a = b) : Ending.returned (.tuple #[.int k a, .int l c]) = .returned (.tuple #[.int k b, .int l c]) := by rw [h]
theorem u64_mod (x : Int) : IntKind.u64.wrap x = x % 18446744073709551616 := by
  simp [IntKind.wrap, IntKind.bits, IntKind.signed]

set_option maxHeartbeats 8000000 in
theorem core (hi lo y Y A b H L U V u1 u0 s : Nat) (h1 : hi < y) (h2 : y < 18446744073709551616) (h3 : lo < 18446744073709551616) (h0 : 0 < hi) (hs : s < 64) (w : World)
    (hlz : ∀ w, Calls Try.prog 39 #[.int .u64 y] w fun e w' => e = .returned (.int .i64 (s : Int)) ∧ w' = w)
    (eY : IntKind.u64.wrap ((y : Int) * 2 ^ s) = (Y : Int)) (eA : (Y : Int) / 4294967296 = (A : Int)) (eb : Go.bits .and .u64 (Y : Int) 4294967295 = (b : Int))
    (eH : IntKind.u64.wrap ((hi : Int) * 2 ^ s) = (H : Int)) (eU : Go.bits .or .u64 (H : Int) ((lo : Int) / 2 ^ (64 - s)) = (U : Int)) (eV : IntKind.u64.wrap ((lo : Int) * 2 ^ s) = (V : Int))
    (e1 : (V : Int) / 4294967296 = (u1 : Int)) (e0 : Go.bits .and .u64 (V : Int) 4294967295 = (u0 : Int)) (hA : 2147483648 ≤ A) (hA2 : A < 4294967296)
    (hY : Y = A * 4294967296 + b) (hb : b < 4294967296) (hu1 : u1 < 4294967296) (hu0 : u0 < 4294967296) (hU : U < Y)
    (Qf Rf : Nat) (eQ : Qf = (U * 18446744073709551616 + u1 * 4294967296 + u0) / Y) (eR : Rf = (U * 18446744073709551616 + u1 * 4294967296 + u0) % Y / 2 ^ s) :
    Calls Try.prog 33 #[.int .u64 hi, .int .u64 lo, .int .u64 y] w fun e w' => e = .returned (.tuple #[.int .u64 Qf, .int .u64 Rf]) ∧ w = w' := by
  have HLZ := hid hlz
  have hAne : ¬ (A : Int) = 0 := by omega
  have c1 : decide ((y : Int) ≤ hi) = false := decide_eq_false (by omega)
  have c2 : ((hi : Int) == 0) = false := by simp; omega
  have c3 : ((y : Int) == 0) = false := by simp; omega
  have hY64 : Y < 18446744073709551616 := by omega
  have hU64 : U < 18446744073709551616 := by omega
  -- the first guess
  have dg1 := dg_init A b U u1 hA hA2 hb hu1 (by omega)
  obtain ⟨q, hq⟩ : ∃ q, q = U / A := ⟨_, rfl⟩
  obtain ⟨r, hr⟩ : ∃ r, r = U % A := ⟨_, rfl⟩
  rw [← hq, ← hr] at dg1
  have i1 : IntKind.u64.wrap ((U : Int) / (A : Int)) = (q : Int) := by
    have : ((U : Int) / (A : Int)) = (q : Int) := by rw [hq]; simp
    rw [this, u64_mod]; have := dg1.hi; omega
  obtain ⟨m, hm⟩ : ∃ m, m = q * A := ⟨_, rfl⟩
  have hmU : m + r = U := by rw [hm]; exact dg1.sum
  have i2 : IntKind.u64.wrap ((q : Int) * (A : Int)) = (m : Int) := by
    rw [u64_mod]
    have : ((q : Int) * (A : Int)) = (m : Int) := by rw [hm]; simp
    rw [this]; omega
  have i3 : IntKind.u64.wrap ((U : Int) - (m : Int)) = (r : Int) := by rw [u64_mod]; omega
  have DG1 := hid dg1
  have HU := hid hU
  have HY := hid hY
  have EQ := hid eQ
  have ER := hid eR
  -- the true digits
  obtain ⟨Q1, hQ1⟩ : ∃ Q1, Q1 = (U * 4294967296 + u1) / Y := ⟨_, rfl⟩
  obtain ⟨R, hR⟩ : ∃ R, R = (U * 4294967296 + u1) % Y := ⟨_, rfl⟩
  obtain ⟨Q0, hQ0⟩ : ∃ Q0, Q0 = (R * 4294967296 + u0) / Y := ⟨_, rfl⟩
  have hQ1b : Q1 < 4294967296 := by rw [hQ1, Nat.div_lt_iff_lt_mul (by omega)]; omega
  have hRb : R < Y := by rw [hR]; exact Nat.mod_lt _ (by omega)
  have hQ0b : Q0 < 4294967296 := by rw [hQ0, Nat.div_lt_iff_lt_mul (by omega)]; omega
  have two := two_digits Y U u1 u0 (by omega) Q1 R Q0 hQ1 hR hQ0
  rw [← eQ] at two
  have TWO := hid two
  have HQ1 := hid hQ1
  have HQ0 := hid hQ0
  have HRB := hid hRb
  have hR64 : R < 18446744073709551616 := by omega
  -- un21
  have i4 : IntKind.u64.wrap (IntKind.u64.wrap (IntKind.u64.wrap ((U : Int) * 4294967296) + (u1 : Int)) - IntKind.u64.wrap ((Q1 : Int) * (Y : Int))) = (R : Int) := by
    have hd := Nat.div_add_mod (U * 4294967296 + u1) Y
    rw [← hQ1, ← hR] at hd
    have e : ((Q1 : Int) * (Y : Int)) = ((Y * Q1 : Nat) : Int) := by simp [Int.mul_comm]
    rw [e]
    generalize Y * Q1 = z at *
    simp only [u64_mod]
    omega
  -- the second guess
  have dg2 := dg_init A b R u0 hA hA2 hb hu0 (by omega)
  obtain ⟨q', hq'⟩ : ∃ q, q = R / A := ⟨_, rfl⟩
  obtain ⟨r', hr'⟩ : ∃ r, r = R % A := ⟨_, rfl⟩
  rw [← hq', ← hr'] at dg2
  have j1 : IntKind.u64.wrap ((R : Int) / (A : Int)) = (q' : Int) := by
    have : ((R : Int) / (A : Int)) = (q' : Int) := by rw [hq']; simp
    rw [this, u64_mod]; have := dg2.hi; omega
  obtain ⟨m', hm'⟩ : ∃ m, m = q' * A := ⟨_, rfl⟩
  have hmR : m' + r' = R := by rw [hm']; exact dg2.sum
  have j2 : IntKind.u64.wrap ((q' : Int) * (A : Int)) = (m' : Int) := by
    rw [u64_mod]
    have : ((q' : Int) * (A : Int)) = (m' : Int) := by rw [hm']; simp
    rw [this]; omega
  have j3 : IntKind.u64.wrap ((R : Int) - (m' : Int)) = (r' : Int) := by rw [u64_mod]; omega
  have DG2 := hid dg2
  -- what is told
  have k1 : IntKind.u64.wrap (IntKind.u64.wrap ((Q1 : Int) * 4294967296) + (Q0 : Int)) = (Qf : Int) := by
    simp only [u64_mod]; omega
  obtain ⟨Z, hZ⟩ : ∃ Z, Z = (R * 4294967296 + u0) % Y := ⟨_, rfl⟩
  have hZb : Z < Y := by rw [hZ]; exact Nat.mod_lt _ (by omega)
  have k2 : IntKind.u64.wrap (IntKind.u64.wrap (IntKind.u64.wrap ((R : Int) * 4294967296) + (u0 : Int)) - IntKind.u64.wrap ((Q0 : Int) * (Y : Int))) = (Z : Int) := by
    have hd := Nat.div_add_mod (R * 4294967296 + u0) Y
    rw [← hQ0, ← hZ] at hd
    have e : ((Q0 : Int) * (Y : Int)) = ((Y * Q0 : Nat) : Int) := by simp [Int.mul_comm]
    rw [e]
    generalize Y * Q0 = z at *
    simp only [u64_mod]
    omega
  have k3 : (Z : Int) / 2 ^ s = (Rf : Int) := by
    rw [eR, ← two.2, ← hZ]; simp
  clear hlz dg1 dg2 hm hmU hq hr hm' hmR hq' hr' two hQ1 hR hQ0 eQ eR hZ hZb hRb hY hU
  go_enter Try.func33, Try.ntmps33
  go_upto_block 0 with (go_at_call 39; (with_reducible refine (HLZ.out _).mono ?_); rintro e w' ⟨rfl, rfl⟩)
  clear i1 i2 i3
  go_cut [15, 16] (fun v15 v16 wc => v15 = .int .u64 Q1 ∧ wc = w')
  case first =>
    go_wp2
    go_loop [15, 16] (fun va vb => ∃ q r : Nat, va = .int .u64 q ∧ vb = .int .u64 r ∧ Hid (Dg A b U u1 q r)) (fun va _ => (intOf va).toNat)
    case atStart => exact ⟨q, r, rfl, rfl, DG1⟩
    case round =>
      obtain ⟨p, t, rfl, rfl, D⟩ := hrel
      clear DG1
      have hp : p ≤ 4294967297 := D.out.hi
      have ht : t < 4294967296 := D.out.rb
      obtain ⟨m, hm⟩ : ∃ m, m = p * b := ⟨_, rfl⟩
      have hmb : m ≤ 4294967297 * 4294967295 := by rw [hm]; exact Nat.mul_le_mul hp (by omega)
      have i2 : IntKind.u64.wrap ((p : Int) * (b : Int)) = (m : Int) := by
        have : ((p : Int) * (b : Int)) = (m : Int) := by rw [hm]; simp
        rw [this, u64_mod]; omega
      have HM := hid hm
      clear hm
      by_cases c1 : 4294967296 ≤ p
      · have hst := dg_step D.out hA (by rw [← HY.out]; exact HU.out) hb hu1 (by rw [← HM.out]; exact (.inl c1))
        obtain ⟨p', hp'⟩ : ∃ p', p' = p - 1 := ⟨_, rfl⟩
        have hp1 : 1 ≤ p := hst.1
        have e1' : (p : Int) - 1 = (p' : Int) := by omega
        have HP := hid hp'
        have HS := hid hst
        clear hst hp'
        have c1' : decide ((4294967296 : Int) ≤ (p : Int)) = true := decide_eq_true (by omega)
        by_cases l : 4294967296 ≤ t + A
        · have hbr := dg_break D.out hA (by rw [← HY.out]; exact HU.out) hb hu1 (by rw [← HM.out]; exact (.inl c1)) l
          rw [← HP.out, ← HY.out, ← HQ1.out] at hbr
          have l' : decide ((4294967296 : Int) ≤ (t : Int) + (A : Int)) = true := decide_eq_true (by omega)
          subst hbr
          go_wp2
          go_meet
          case rel => exact ⟨rfl, rfl⟩
        · have hnx := dg_next D.out hA (by rw [← HY.out]; exact HU.out) hb hu1 (by rw [← HM.out]; exact (.inl c1)) l
          rw [← HP.out] at hnx
          have HN := hid hnx
          have l' : decide ((4294967296 : Int) ≤ (t : Int) + (A : Int)) = false := decide_eq_false (by omega)
          have hpp : p' < p := by have := HP.out; omega
          clear hnx
          go_wp2
          go_round
          case rel => exact ⟨p', t + A, rfl, by go_num, HN⟩
          case measure => simp [intOf]; omega
      · have c1' : decide ((4294967296 : Int) ≤ (p : Int)) = false := decide_eq_false (by omega)
        by_cases c2 : 4294967296 * t + u1 < m
        · have hst := dg_step D.out hA (by rw [← HY.out]; exact HU.out) hb hu1 (by rw [← HM.out]; exact (.inr c2))
          obtain ⟨p', hp'⟩ : ∃ p', p' = p - 1 := ⟨_, rfl⟩
          have hp1 : 1 ≤ p := hst.1
          have e1' : (p : Int) - 1 = (p' : Int) := by omega
          have HP := hid hp'
          have HS := hid hst
          clear hst hp'
          have c2' : decide ((4294967296 : Int) * (t : Int) + (u1 : Int) < (m : Int)) = true := decide_eq_true (by omega)
          by_cases l : 4294967296 ≤ t + A
          · have hbr := dg_break D.out hA (by rw [← HY.out]; exact HU.out) hb hu1 (by rw [← HM.out]; exact (.inr c2)) l
            rw [← HP.out, ← HY.out, ← HQ1.out] at hbr
            have l' : decide ((4294967296 : Int) ≤ (t : Int) + (A : Int)) = true := decide_eq_true (by omega)
            subst hbr
            go_wp2
            go_meet
            case rel => exact ⟨rfl, rfl⟩
          · have hnx := dg_next D.out hA (by rw [← HY.out]; exact HU.out) hb hu1 (by rw [← HM.out]; exact (.inr c2)) l
            rw [← HP.out] at hnx
            have HN := hid hnx
            have l' : decide ((4294967296 : Int) ≤ (t : Int) + (A : Int)) = false := decide_eq_false (by omega)
            have hpp : p' < p := by have := HP.out; omega
            clear hnx
            go_wp2
            go_round
            case rel => exact ⟨p', t + A, rfl, by go_num, HN⟩
            case measure => simp [intOf]; omega
        · have hen := dg_end D.out (by omega) (by rw [← HM.out]; exact c2)
          rw [← HY.out, ← HQ1.out] at hen
          have c2' : decide ((4294967296 : Int) * (t : Int) + (u1 : Int) < (m : Int)) = false := decide_eq_false (by omega)
          subst hen
          go_wp2
          go_meet
          case rel => exact ⟨rfl, rfl⟩
  case rest =>
    obtain ⟨rfl, rfl⟩ := hcut
    clear HQ1 HU DG1
    go_upto_block 2 with (fail)
    clear j1 j2 j3 i4
    go_cut [18, 16] (fun v18 v16 wd => v18 = .int .u64 Q0 ∧ wd = wc)
    case first =>
      go_wp2
      go_loop [18, 16] (fun va vb => ∃ q r : Nat, va = .int .u64 q ∧ vb = .int .u64 r ∧ Hid (Dg A b R u0 q r)) (fun va _ => (intOf va).toNat)
      case atStart => exact ⟨q', r', rfl, rfl, DG2⟩
      case round =>
        obtain ⟨p, t, rfl, rfl, D⟩ := hrel
        clear DG2
        have hp : p ≤ 4294967297 := D.out.hi
        have ht : t < 4294967296 := D.out.rb
        obtain ⟨m, hm⟩ : ∃ m, m = p * b := ⟨_, rfl⟩
        have hmb : m ≤ 4294967297 * 4294967295 := by rw [hm]; exact Nat.mul_le_mul hp (by omega)
        have i2 : IntKind.u64.wrap ((p : Int) * (b : Int)) = (m : Int) := by
          have : ((p : Int) * (b : Int)) = (m : Int) := by rw [hm]; simp
          rw [this, u64_mod]; omega
        have HM := hid hm
        clear hm
        by_cases c1 : 4294967296 ≤ p
        · have hst := dg_step D.out hA (by rw [← HY.out]; exact HRB.out) hb hu0 (by rw [← HM.out]; exact (.inl c1))
          obtain ⟨p', hp'⟩ : ∃ p', p' = p - 1 := ⟨_, rfl⟩
          have hp1 : 1 ≤ p := hst.1
          have e1' : (p : Int) - 1 = (p' : Int) := by omega
          have HP := hid hp'
          have HS := hid hst
          clear hst hp'
          have c1' : decide ((4294967296 : Int) ≤ (p : Int)) = true := decide_eq_true (by omega)
          by_cases l : 4294967296 ≤ t + A
          · have hbr := dg_break D.out hA (by rw [← HY.out]; exact HRB.out) hb hu0 (by rw [← HM.out]; exact (.inl c1)) l
            rw [← HP.out, ← HY.out, ← HQ0.out] at hbr
            have l' : decide ((4294967296 : Int) ≤ (t : Int) + (A : Int)) = true := decide_eq_true (by omega)
            subst hbr
            go_wp2
            go_meet
            case rel => exact ⟨rfl, rfl⟩
          · have hnx := dg_next D.out hA (by rw [← HY.out]; exact HRB.out) hb hu0 (by rw [← HM.out]; exact (.inl c1)) l
            rw [← HP.out] at hnx
            have HN := hid hnx
            have l' : decide ((4294967296 : Int) ≤ (t : Int) + (A : Int)) = false := decide_eq_false (by omega)
            have hpp : p' < p := by have := HP.out; omega
            clear hnx
            go_wp2
            go_round
            case rel => exact ⟨p', t + A, rfl, by go_num, HN⟩
            case measure => simp [intOf]; omega
        · have c1' : decide ((4294967296 : Int) ≤ (p : Int)) = false := decide_eq_false (by omega)
          by_cases c2 : 4294967296 * t + u0 < m
          · have hst := dg_step D.out hA (by rw [← HY.out]; exact HRB.out) hb hu0 (by rw [← HM.out]; exact (.inr c2))
            obtain ⟨p', hp'⟩ : ∃ p', p' = p - 1 := ⟨_, rfl⟩
            have hp1 : 1 ≤ p := hst.1
            have e1' : (p : Int) - 1 = (p' : Int) := by omega
            have HP := hid hp'
            have HS := hid hst
            clear hst hp'
            have c2' : decide ((4294967296 : Int) * (t : Int) + (u0 : Int) < (m : Int)) = true := decide_eq_true (by omega)
            by_cases l : 4294967296 ≤ t + A
            · have hbr := dg_break D.out hA (by rw [← HY.out]; exact HRB.out) hb hu0 (by rw [← HM.out]; exact (.inr c2)) l
              rw [← HP.out, ← HY.out, ← HQ0.out] at hbr
              have l' : decide ((4294967296 : Int) ≤ (t : Int) + (A : Int)) = true := decide_eq_true (by omega)
              subst hbr
              go_wp2
              go_meet
              case rel => exact ⟨rfl, rfl⟩
            · have hnx := dg_next D.out hA (by rw [← HY.out]; exact HRB.out) hb hu0 (by rw [← HM.out]; exact (.inr c2)) l
              rw [← HP.out] at hnx
              have HN := hid hnx
              have l' : decide ((4294967296 : Int) ≤ (t : Int) + (A : Int)) = false := decide_eq_false (by omega)
              have hpp : p' < p := by have := HP.out; omega
              clear hnx
              go_wp2
              go_round
              case rel => exact ⟨p', t + A, rfl, by go_num, HN⟩
              case measure => simp [intOf]; omega
          · have hen := dg_end D.out (by omega) (by rw [← HM.out]; exact c2)
            rw [← HY.out, ← HQ0.out] at hen
            have c2' : decide ((4294967296 : Int) * (t : Int) + (u0 : Int) < (m : Int)) = false := decide_eq_false (by omega)
            subst hen
            go_wp2
            go_meet
            case rel => exact ⟨rfl, rfl⟩
    case rest =>
      obtain ⟨rfl, rfl⟩ := hcut
      go_wp2
      go_ret2
      exact ⟨ret_pair (by have := TWO.out.1; omega), rfl⟩

set_option maxHeartbeats 1000000 in
theorem small (lo y : Nat) (h2 : y < 18446744073709551616) (h3 : lo < 18446744073709551616) (hy : 0 < y) (w : World) :
    Calls Try.prog 33 #[.int .u64 0, .int .u64 lo, .int .u64 y] w fun e w' => e = .returned (.tuple #[.int .u64 ((lo / y : Nat) : Int), .int .u64 ((lo % y : Nat) : Int)]) ∧ Below w.heap.size w w' := by
  have c1 : decide ((y : Int) ≤ 0) = false := decide_eq_false (by omega)
  have c3 : ((y : Int) == 0) = false := by simp; omega
  have c4 : ¬ (y : Int) = 0 := by omega
  have c5 : ¬ y = 0 := by omega
  have hq : lo / y ≤ lo := Nat.div_le_self _ _
  have hr : lo % y < y := Nat.mod_lt _ hy
  obtain ⟨q, hq'⟩ : ∃ q, q = lo / y := ⟨_, rfl⟩
  obtain ⟨r, hr'⟩ : ∃ r, r = lo % y := ⟨_, rfl⟩
  rw [← hq'] at hq
  rw [← hr'] at hr
  have i1 : ((lo : Int) / (y : Int)) = (q : Int) := by rw [hq']; simp
  have i2 : ((lo : Int) % (y : Int)) = (r : Int) := by rw [hr']; simp
  have i3 : ((lo : Int).tmod (y : Int)) = (r : Int) := by rw [Int.tmod_eq_emod_of_nonneg (by omega)]; exact i2
  have i5 : ((lo : Int).tdiv (y : Int)) = (q : Int) := by rw [Int.tdiv_eq_ediv_of_nonneg (by omega)]; exact i1
  rw [← hq', ← hr']
  clear hq' hr'
  go_enter Try.func33, Try.ntmps33
  go_wp2
  go_quiet (fail)
  go_wp2
  go_ret2
  exact ⟨rfl, by (with_reducible repeat (first | assumption | exact Below.refl _ _ | (refine b4 ?_ ?_; focus (first | omega | (simp <;> omega))) | refine b2 ?_ | refine Below.drew ?_ | (refine b5 ?_ ?_; focus (first | omega | (simp <;> omega))) | (refine b1 ?_ ?_; focus (first | omega | (simp <;> omega))) | (refine b3 (by assumption) ?_ ?_; focus (first | omega | (simp <;> omega)))))⟩

theorem bitLen_bounds : ∀ (n y : Nat), y ≤ n → 0 < y → y < 2 ^ 64 → 2 ^ (Lib.bitLen y - 1) ≤ y ∧ y < 2 ^ Lib.bitLen y ∧ 1 ≤ Lib.bitLen y := by
  intro n
  induction n with
  | zero => intro y h h0; omega
  | succ n ih =>
    intro y h h0 h64
    have hh := Lib.bitLen_half y (by omega) h64
    by_cases c : y = 1
    · subst c; decide
    · obtain ⟨a, b, d⟩ := ih (y / 2) (by omega) (by omega) (by omega)
      rw [hh]
      generalize Lib.bitLen (y / 2) = k at *
      obtain ⟨j, rfl⟩ : ∃ j, k = j + 1 := ⟨k - 1, by omega⟩
      have e1 : 1 + (j + 1) - 1 = j + 1 := by omega
      have e2 : 1 + (j + 1) = j + 1 + 1 := by omega
      have e3 : j + 1 - 1 = j := by omega
      rw [e1, e2, Nat.pow_succ]
      rw [e3] at a
      rw [Nat.pow_succ] at b ⊢
      omega

theorem and_low (x : Int) (h0 : 0 ≤ x) (h1 : x < 18446744073709551616) : Go.bits .and .u64 x 4294967295 = x % 4294967296 := by
  have := bits_mask .u64 64 (by decide) (fun n a b => by rw [u64_mod]; omega) 32 (by decide) x h0 (by simpa using h1)
  simpa using this

theorem join_shift (hi P l M z lo : Nat) (h : lo * P = l * M + z) : (hi * P + l) * M + z = (hi * M + lo) * P := by
  rw [Nat.add_mul, Nat.add_mul, h, Nat.mul_right_comm hi M P, Nat.add_assoc]
theorem div64 (hi lo y : Nat) (h1 : hi < y) (h2 : y < 18446744073709551616) (h3 : lo < 18446744073709551616) (w : World) :
    Calls Try.prog 33 #[.int .u64 hi, .int .u64 lo, .int .u64 y] w fun e w' =>
      e = .returned (.tuple #[.int .u64 (((hi * 18446744073709551616 + lo) / y : Nat) : Int), .int .u64 (((hi * 18446744073709551616 + lo) % y : Nat) : Int)]) ∧ Below w.heap.size w w' := by
  by_cases h0 : hi = 0
  · subst h0
    have := small lo y h2 h3 (by omega) w
    rwa [Nat.zero_mul, Nat.zero_add]
  · have p64 : (2 : Nat) ^ 64 = 18446744073709551616 := by decide
    obtain ⟨b1, b2, b3⟩ := bitLen_bounds y y (Nat.le_refl _) (by omega) (by omega)
    have b4 : Lib.bitLen y ≤ 64 := by
      rcases Nat.lt_or_ge 64 (Lib.bitLen y) with h | h
      · have := Nat.pow_le_pow_right (n := 2) (by decide) (show 64 ≤ Lib.bitLen y - 1 by omega)
        omega
      · exact h
    obtain ⟨s, hs⟩ : ∃ s, s = 64 - Lib.bitLen y := ⟨_, rfl⟩
    have hlz : ∀ w, Calls Try.prog 39 #[.int .u64 y] w fun e w' => e = .returned (.int .i64 (s : Int)) ∧ w' = w := by
      intro w
      have h := Try.bits_LeadingZeros64 (y : Int) w (by omega) (by omega)
      have e : (64 - (Lib.bitLen (y : Int).toNat : Int)) = (s : Int) := by rw [Int.toNat_natCast]; omega
      rwa [e] at h
    obtain ⟨P, hP⟩ : ∃ P, P = 2 ^ s := ⟨_, rfl⟩
    have hP0 : 0 < P := by rw [hP]; exact Nat.pow_pos (by decide)
    have hPi : (2 : Int) ^ s = (P : Int) := by rw [hP]; simp
    obtain ⟨T, hT⟩ : ∃ T, T = 2 ^ (64 - s) := ⟨_, rfl⟩
    have hTi : (2 : Int) ^ (64 - s) = (T : Int) := by rw [hT]; simp
    have hT0 : 0 < T := by rw [hT]; exact Nat.pow_pos (by decide)
    have hTP : T * P = 18446744073709551616 := by rw [hT, hP, ← Nat.pow_add, ← p64]; congr 1; omega
    have hyT : y < T := by rw [hT, show 64 - s = Lib.bitLen y by omega]; exact b2
    have hYlo : 9223372036854775808 ≤ y * P := by
      have h := Nat.mul_le_mul_right P b1
      have e : 2 ^ (Lib.bitLen y - 1) * P = 9223372036854775808 := by
        rw [hP, ← Nat.pow_add, show Lib.bitLen y - 1 + s = 63 by omega]
      omega
    have hYhi : y * P + P ≤ 18446744073709551616 := by
      have h := Nat.mul_le_mul_right P (show y + 1 ≤ T from hyT)
      rw [Nat.add_mul, Nat.one_mul] at h; omega
    have hHY : hi * P + P ≤ y * P := by
      have h := Nat.mul_le_mul_right P (show hi + 1 ≤ y from h1)
      rw [Nat.add_mul, Nat.one_mul] at h; exact h
    -- the low word's high bits
    have hL : lo / T < P := by
      rw [Nat.div_lt_iff_lt_mul hT0, Nat.mul_comm, hTP]; exact h3
    have hlow : lo * P = lo / T * 18446744073709551616 + lo * P % 18446744073709551616 := by
      have h := Nat.div_add_mod (lo * P) 18446744073709551616
      have e : lo * P / 18446744073709551616 = lo / T := by rw [← hTP, Nat.mul_div_mul_right _ _ hP0]
      rw [e] at h
      generalize lo * P % 18446744073709551616 = z at *
      generalize lo * P = x at *
      generalize lo / T = l at *
      omega
    have hmodP : (hi * P) % P = 0 := Nat.mul_mod_left _ _
    have hN : (hi * P + lo / T) * 18446744073709551616 + lo * P % 18446744073709551616 = (hi * 18446744073709551616 + lo) * P :=
      join_shift hi P (lo / T) 18446744073709551616 _ lo hlow
    have eLi : ((lo : Int) / (T : Int)) = ((lo / T : Nat) : Int) := by simp
    have hQe : ((hi * P + lo / T) * 18446744073709551616 + lo * P % 18446744073709551616 / 4294967296 * 4294967296 + lo * P % 18446744073709551616 % 4294967296) = (hi * 18446744073709551616 + lo) * P := by
      refine Eq.trans ?_ hN
      rw [Nat.add_assoc, Nat.div_add_mod']
    have key := core hi lo y (y * P) (y * P / 4294967296) (y * P % 4294967296) (hi * P) (lo / T) (hi * P + lo / T) (lo * P % 18446744073709551616) (lo * P % 18446744073709551616 / 4294967296) (lo * P % 18446744073709551616 % 4294967296) s h1 h2 h3 (by omega) (by omega) w hlz
      (by rw [hPi, u64_mod]; have : ((y : Int) * (P : Int)) = ((y * P : Nat) : Int) := by simp
          rw [this]; omega)
      (by simp) (by rw [and_low _ (by omega) (by omega)]; simp)
      (by rw [hPi, u64_mod]; have : ((hi : Int) * (P : Int)) = ((hi * P : Nat) : Int) := by simp
          rw [this]; omega)
      (by rw [hTi, eLi]
          rw [u64_or_nat (hi * P) (lo / T) (by omega) (by omega), nat_join s (hi * P) (lo / T) (by rw [← hP]; exact hmodP) (by rw [← hP]; exact hL)])
      (by rw [hPi, u64_mod]; simp)
      (by simp) (by rw [and_low _ (by omega) (by omega)]; simp)
      (by omega) (by omega) (by omega) (by omega) (by omega) (by omega) (by omega)
      ((hi * 18446744073709551616 + lo) / y) ((hi * 18446744073709551616 + lo) % y)
      (by rw [hQe, Nat.mul_div_mul_right _ _ hP0])
      (by rw [hQe, Nat.mul_mod_mul_right, ← hP, Nat.mul_div_cancel _ hP0])
    exact key.mono fun e w' ⟨he, hw⟩ => ⟨he, hw ▸ Below.refl _ _⟩

end Go.Proofs.Ytbccafpaeplabaa.Div
