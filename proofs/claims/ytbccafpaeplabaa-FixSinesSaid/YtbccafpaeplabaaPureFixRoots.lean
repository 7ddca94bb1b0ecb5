/- Every square root that package fix tells is the greatest number whose square is not above its argument; for every 64-bit argument. -/
import Derived.Test.YtbccafpaeplabaaPFixRootsx1
namespace Go.Proofs.Ytbccafpaeplabaa.Pure
open Go.RowKit Go.Proofs.Ytbccafpaeplabaa.PFixRoots Go.Proofs.YtbccafpaeplabaaW.PrintWords Go.Proofs.YtbccafpaeplabaaW.PrintLast

theorem wrap_u64_in (x : Int) (h0 : 0 ≤ x) (h1 : x < 18446744073709551616) : IntKind.u64.wrap x = x := by
  simp only [IntKind.wrap, IntKind.bits, IntKind.signed]; simp; omega

theorem sq_lt (a b : Int) (h0 : 0 ≤ a) (h : a < b) : a * a < b * b := by
  have h1 : a * a ≤ a * b := Int.mul_le_mul_of_nonneg_left (by omega) h0
  have h2 : a * b < b * b := Int.mul_lt_mul_of_pos_right h (by omega)
  omega

theorem sq_le (a b : Int) (h0 : 0 ≤ a) (h : a ≤ b) : a * a ≤ b * b := by
  have h1 : a * a ≤ a * b := Int.mul_le_mul_of_nonneg_left h h0
  have h2 : a * b ≤ b * b := Int.mul_le_mul_of_nonneg_right h (by omega)
  omega

theorem sq32 (a : Int) (h0 : 0 ≤ a) (h : a < 4294967296) : a * a < 18446744073709551616 := by
  have := sq_lt a 4294967296 h0 h; omega

theorem or_join (r : Nat) (j m : Nat) (hj : j ≤ 31) (hr : r = 2 ^ (j + 1) * m) (h : r < 4294967296) : Go.bits .or .u64 (r : Int) ((2 ^ j : Nat) : Int) = ((r + 2 ^ j : Nat) : Int) := by
  have hp : 2 ^ j ≤ 2 ^ 31 := Nat.pow_le_pow_right (by decide) hj
  rw [u64_or_nat r (2 ^ j) (by omega) (by omega)]
  rw [nat_join (j + 1) r (2 ^ j) (by rw [hr]; exact Nat.mul_mod_right _ _) (Nat.pow_lt_pow_right (by decide) (by omega))]

theorem root_loop (n : Int) : ∀ (j : Nat) (r m : Nat), j ≤ 31 → r = 2 ^ (j + 1) * m → r + 2 ^ (j + 1) ≤ 4294967296 →
    (r : Int) * r ≤ n → n < ((r : Int) + 2 ^ (j + 1)) * ((r : Int) + 2 ^ (j + 1)) → ∀ k, j + 1 < k →
    ∃ s : Int, fix_Root.l0 k n r ((2 ^ j : Nat) : Int) = some s ∧ 0 ≤ s ∧ s < 4294967296 ∧ s * s ≤ n ∧ n < (s + 1) * (s + 1) := by
  intro j
  induction j with
  | zero =>
    intro r m hj hr hb hlo hhi k hk
    obtain ⟨k, rfl⟩ : ∃ q, k = q + 1 + 1 := ⟨k - 2, by omega⟩
    have e := or_join r 0 m hj hr (by omega)
    have e1 : ((2 ^ 0 : Nat) : Int) = ((1 : Nat) : Int) := rfl
    have e2 : (2 : Nat) ^ 0 = 1 := rfl
    rw [e1, e2] at e
    rw [e1]
    simp only [fix_Root.l0]
    rw [if_pos (by omega), e]
    have hrw : (((r + 1 : Nat) : Int)) < 4294967296 := by simp at hb; omega
    rw [wrap_u64_in _ (Int.mul_nonneg (by omega) (by omega)) (sq32 _ (by omega) hrw)]
    have h2 : ((1 : Nat) : Int) / 2 = 0 := by decide
    rw [h2]
    by_cases c : ((r + 1 : Nat) : Int) * ((r + 1 : Nat) : Int) ≤ n
    · rw [if_pos c, if_neg (by omega)]
      refine ⟨_, rfl, by omega, hrw, c, ?_⟩
      have e2 : ((r + 1 : Nat) : Int) + 1 = (r : Int) + 2 ^ (0 + 1) := by simp; omega
      rw [e2]; exact hhi
    · rw [if_neg c, if_neg (by omega)]
      refine ⟨_, rfl, by omega, by simp at hb; omega, hlo, ?_⟩
      have e2 : ((r + 1 : Nat) : Int) = (r : Int) + 1 := by simp
      rw [e2] at c; omega
  | succ j ih =>
    intro r m hj hr hb hlo hhi k hk
    obtain ⟨k, rfl⟩ : ∃ q, k = q + 1 := ⟨k - 1, by omega⟩
    have hp : 2 ^ (j + 1 + 1) = 2 ^ (j + 1) + 2 ^ (j + 1) := by rw [Nat.pow_succ]; omega
    have hp1 : 0 < 2 ^ (j + 1) := Nat.pow_pos (by decide)
    have e := or_join r (j + 1) m hj hr (by omega)
    simp only [fix_Root.l0]
    rw [if_pos (by omega), e]
    have hrw : (((r + 2 ^ (j + 1) : Nat) : Int)) < 4294967296 := by omega
    rw [wrap_u64_in _ (Int.mul_nonneg (by omega) (by omega)) (sq32 _ (by omega) hrw)]
    have h2 : ((2 ^ (j + 1) : Nat) : Int) / 2 = ((2 ^ j : Nat) : Int) := by rw [Nat.pow_succ]; omega
    rw [h2]
    have hpi : (2 : Int) ^ (j + 1 + 1) = ((2 ^ (j + 1 + 1) : Nat) : Int) := by simp
    have hpj : (2 : Int) ^ (j + 1) = ((2 ^ (j + 1) : Nat) : Int) := by simp
    rw [hpi] at hhi
    rw [hpj] at ih
    by_cases c : ((r + 2 ^ (j + 1) : Nat) : Int) * ((r + 2 ^ (j + 1) : Nat) : Int) ≤ n
    · rw [if_pos c]
      refine ih (r + 2 ^ (j + 1)) (2 * m + 1) (by omega) ?_ (by omega) c ?_ k (by omega)
      · rw [hr, Nat.mul_add, Nat.mul_one, ← Nat.mul_assoc, hp]; congr 2; omega
      · have e3 : ((r + 2 ^ (j + 1) : Nat) : Int) + ((2 ^ (j + 1) : Nat) : Int) = (r : Int) + ((2 ^ (j + 1 + 1) : Nat) : Int) := by omega
        rw [e3]; exact hhi
    · rw [if_neg c]
      refine ih r (2 * m) (by omega) ?_ (by omega) hlo ?_ k (by omega)
      · rw [hr, ← Nat.mul_assoc, hp]; congr 1; omega
      · have e3 : ((r + 2 ^ (j + 1) : Nat) : Int) = (r : Int) + ((2 ^ (j + 1) : Nat) : Int) := by omega
        rw [e3] at c; omega

theorem root_f (n : Int) (h0 : 0 ≤ n) (hn : n < 18446744073709551616) : ∃ s : Int, Ev (fun k => fix_Root.f k n) s ∧ 0 ≤ s ∧ s < 4294967296 ∧ s * s ≤ n ∧ n < (s + 1) * (s + 1) := by
  have h := root_loop n 31 0 0 (by omega) (by omega) (by omega) (by simpa using h0) (by simpa using hn)
  obtain ⟨s, hs, h1⟩ := h 34 (by omega)
  exact ⟨s, Ev.of (fix_Root.mono n) (k := 34) hs, h1⟩

theorem ref_loop (n : Int) (_hn : n < 18446744073709551616) : ∀ (d : Nat) (lo hi : Int), hi - lo ≤ d → 0 ≤ lo → lo < hi → hi ≤ 4294967296 → lo * lo ≤ n → n < hi * hi → ∀ k, d < k →
    ∃ s : Int, skirmishref03_Root.l0 k n lo hi = some s ∧ 0 ≤ s ∧ s < 4294967296 ∧ s * s ≤ n ∧ n < (s + 1) * (s + 1) := by
  intro d
  induction d using Nat.strongRecOn with
  | ind d ih =>
    intro lo hi hd h0 hlt hh hlo hhi k hk
    obtain ⟨k, rfl⟩ : ∃ q, k = q + 1 := ⟨k - 1, by omega⟩
    simp only [skirmishref03_Root.l0]
    rw [wrap_u64_in (hi - lo) (by omega) (by omega), wrap_u64_in (lo + hi) (by omega) (by omega)]
    have e : Int.tdiv (lo + hi) 2 = (lo + hi) / 2 := Int.tdiv_eq_ediv_of_nonneg (by omega)
    rw [e, wrap_u64_in ((lo + hi) / 2) (by omega) (by omega)]
    by_cases c : hi - lo > 1
    · rw [if_pos c]
      have hm : (lo + hi) / 2 < 4294967296 := by omega
      rw [wrap_u64_in _ (Int.mul_nonneg (by omega) (by omega)) (sq32 _ (by omega) hm)]
      by_cases c2 : (lo + hi) / 2 * ((lo + hi) / 2) ≤ n
      · rw [if_pos c2]
        exact ih (hi - (lo + hi) / 2).toNat (by omega) _ _ (by omega) (by omega) (by omega) hh c2 hhi k (by omega)
      · rw [if_neg c2]
        exact ih ((lo + hi) / 2 - lo).toNat (by omega) _ _ (by omega) (by omega) (by omega) (by omega) hlo (by omega) k (by omega)
    · rw [if_neg c]
      have : hi = lo + 1 := by omega
      subst this
      exact ⟨lo, rfl, h0, by omega, hlo, hhi⟩

theorem ref_f (n : Int) (h0 : 0 ≤ n) (hn : n < 18446744073709551616) : ∃ s : Int, Ev (fun k => skirmishref03_Root.f k n) s ∧ 0 ≤ s ∧ s < 4294967296 ∧ s * s ≤ n ∧ n < (s + 1) * (s + 1) := by
  have h := ref_loop n hn 4294967296 0 4294967296 (by omega) (by omega) (by omega) (by omega) (by simpa using h0) (by omega)
  obtain ⟨s, hs, h1⟩ := h 4294967297 (by omega)
  exact ⟨s, Ev.of (skirmishref03_Root.mono n) (k := 4294967297) hs, h1⟩

theorem root_one (n s t : Int) (hs0 : 0 ≤ s) (ht0 : 0 ≤ t) (hs : s * s ≤ n) (hs' : n < (s + 1) * (s + 1)) (ht : t * t ≤ n) (ht' : n < (t + 1) * (t + 1)) : s = t := by
  rcases Int.lt_trichotomy s t with h | h | h
  · have := sq_le (s + 1) t (by omega) (by omega); omega
  · exact h
  · have := sq_le (t + 1) s (by omega) (by omega); omega

theorem awake_ev : Ev (fun k => skirmishlaw03_awake.f k) true := Ev.of skirmishlaw03_awake.mono (k := 60) (by decide +kernel)

theorem FixRoots : skirmishlaw03_FixRoots.Pure := by
  intro n hw
  have hb : 0 ≤ n ∧ n < 18446744073709551616 := by simp [Lit.wf, IntKind.min, IntKind.max, IntKind.signed, IntKind.bits] at hw; omega
  obtain ⟨h0, hn⟩ := hb
  obtain ⟨s, hs, s0, s1, s2, s3⟩ := root_f n h0 hn
  obtain ⟨t, ht, t0, t1, t2, t3⟩ := ref_f n h0 hn
  obtain rfl : s = t := root_one n s t s0 t0 s2 s3 t2 t3
  obtain ⟨k1, H1⟩ := awake_ev
  obtain ⟨k2, H2⟩ := hs
  obtain ⟨k3, H3⟩ := ht
  refine ⟨k1 + k2 + k3, ?_⟩
  unfold skirmishlaw03_FixRoots.f
  have a1 := H1 (k1 + k2 + k3) (by omega)
  have a2 := H2 (k1 + k2 + k3) (by omega)
  have a3 := H3 (k1 + k2 + k3) (by omega)
  simp only at a1 a2 a3
  rw [a1]; simp only [Option.bind_some]
  simp only [if_true]; rw [a2]; simp only [Option.bind_some]
  rw [a3]; simp only [Option.bind_some]
  rw [if_pos trivial, if_pos (by omega), wrap_u64_in _ (Int.mul_nonneg s0 s0) (sq32 s s0 s1), if_pos s2]
  by_cases c : s = 4294967295
  · rw [if_pos c]
  · rw [if_neg c, wrap_u64_in (s + 1) (by omega) (by omega), wrap_u64_in _ (Int.mul_nonneg (by omega) (by omega)) (sq32 (s + 1) (by omega) (by omega))]
    rw [decide_eq_true (by omega)]

end Go.Proofs.Ytbccafpaeplabaa.Pure
