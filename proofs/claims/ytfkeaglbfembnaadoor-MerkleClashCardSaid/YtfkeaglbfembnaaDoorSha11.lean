/- SHA-256 of "abc" begins with 186 and ends with 173. -/
import Derived.Test.YtfkeaglbfembnaaDoorSha8
namespace Go.Proofs.YtfkeaglbfembnaaDoor.Sha11
open Go Go.Proofs.YtfkeaglbfembnaaDoor.Sha1 Go.Proofs.YtfkeaglbfembnaaDoor.Sha2 Go.Proofs.YtfkeaglbfembnaaDoor.Sha5 Go.Proofs.YtfkeaglbfembnaaDoor.Sha7 Go.Proofs.YtfkeaglbfembnaaDoor.Sha8
set_option maxRecDepth 100000
structure S8 where
  a : W32
  b : W32
  c : W32
  d : W32
  e : W32
  f : W32
  g : W32
  h : W32
def S8.fn (s : S8) : Nat → W32
  | 0 => s.a
  | 1 => s.b
  | 2 => s.c
  | 3 => s.d
  | 4 => s.e
  | 5 => s.f
  | 6 => s.g
  | _ => s.h
def S8.of (f : Nat → W32) : S8 := ⟨f 0, f 1, f 2, f 3, f 4, f 5, f 6, f 7⟩
def toneS (k x : W32) (s : S8) : W32 := s.h + cap1 s.e + chf s.e s.f s.g + k + x
def stepS (k x : W32) (s : S8) : S8 := ⟨toneS k x s + cap0 s.a + majf s.a s.b s.c, s.a, s.b, s.c, s.d + toneS k x s, s.e, s.f, s.g⟩
theorem step_of (k x : W32) (v : Nat → W32) : S8.of (rstep k x v) = stepS k x (S8.of v) := rfl
def runS : List (W32 × W32) → S8 → S8
  | [], s => s
  | p :: r, s => runS r (stepS p.1 p.2 s)
theorem runS_append (l m : List (W32 × W32)) (s : S8) : runS (l ++ m) s = runS m (runS l s) := by
  induction l generalizing s with
  | nil => rfl
  | cons p r ih => exact ih _
theorem rounds_run (K W H : Nat → W32) : ∀ t, S8.of (rounds K W H t) = runS ((List.range t).map fun i => (K i, W i)) (S8.of H)
  | 0 => rfl
  | t + 1 => by
    rw [List.range_succ, List.map_append, runS_append, ← rounds_run K W H t]
    exact step_of _ _ _
/-- The schedule, newest first. -/
def schL (B : Nat → B8) : Nat → List W32
  | 0 => (List.range 16).reverse.map fun t => word4 (B (4 * t)) (B (4 * t + 1)) (B (4 * t + 2)) (B (4 * t + 3))
  | n + 1 => match schL B n with
    | l => (sig1 (l.getD 1 0) + l.getD 6 0 + sig0 (l.getD 14 0) + l.getD 15 0) :: l
theorem schL_eq (B : Nat → B8) : ∀ n, schL B n = (List.range (n + 16)).reverse.map (sched B)
  | 0 => by
    unfold schL
    apply List.map_congr_left
    intro t ht
    simp at ht
    exact (sched_lt B t (by omega)).symm
  | n + 1 => by
    unfold schL
    rw [schL_eq B n]
    have hg : ∀ j, j < n + 16 → ((List.range (n + 16)).reverse.map (sched B)).getD j 0 = sched B (n + 15 - j) := by
      intro j hj
      rw [List.getD_eq_getElem?_getD, List.getElem?_map, List.getElem?_reverse (by simpa using hj), List.length_range, List.getElem?_range (by omega)]
      simp
    have e : (List.range (n + 16 + 1)).reverse.map (sched B) = sched B (n + 16) :: (List.range (n + 16)).reverse.map (sched B) := by
      rw [List.range_succ, List.reverse_append, List.map_append]; rfl
    rw [show n + 1 + 16 = n + 16 + 1 by omega, e, sched_ge]
    generalize (List.range (n + 16)).reverse.map (sched B) = L at hg
    show (sig1 (L.getD 1 0) + L.getD 6 0 + sig0 (L.getD 14 0) + L.getD 15 0) :: L = _
    rw [hg 1 (by omega), hg 6 (by omega), hg 14 (by omega), hg 15 (by omega), show n + 15 - 1 = n + 14 by omega, show n + 15 - 6 = n + 9 by omega, show n + 15 - 14 = n + 1 by omega, show n + 15 - 15 = n by omega]
def blockS (K H : Nat → W32) (B : Nat → B8) : S8 :=
  runS (((List.range 64).map K).zip (schL B 48).reverse) (S8.of H)
theorem blockS_eq (K H : Nat → W32) (B : Nat → B8) : blockS K H B = S8.of (rounds K (sched B) H 64) := by
  unfold blockS
  rw [rounds_run, schL_eq]
  congr 1
theorem fn_of (f : Nat → W32) (i : Nat) (h : i < 8) : (S8.of f).fn i = f i := by
  match i, h with
  | 0, _ => rfl
  | 1, _ => rfl
  | 2, _ => rfl
  | 3, _ => rfl
  | 4, _ => rfl
  | 5, _ => rfl
  | 6, _ => rfl
  | 7, _ => rfl
def abc : Bytes8 := [97#8, 98#8, 99#8]
theorem abc_stm (i : Nat) (h : i < 8) : stm (pad (lf abc) 3) 1 i = H0 i + (blockS K0 H0 (pad (lf abc) 3)).fn i := by
  rw [blockS_eq, fn_of _ i h]
  show H0 i + rounds K0 (sched fun i => pad (lf abc) 3 (64 * 0 + i)) H0 64 i = _
  simp only [Nat.mul_zero, Nat.zero_add]
theorem abc0' : (H0 0 + (blockS K0 H0 (pad (lf abc) 3)).fn 0).toNat / 2 ^ 24 % 2 ^ 8 = (186#8 : B8).toNat := by decide +kernel
theorem abc31' : (H0 7 + (blockS K0 H0 (pad (lf abc) 3)).fn 7).toNat % 2 ^ 8 = (173#8 : B8).toNat := by decide +kernel
theorem abc_sha : shaL abc = dig (stm (pad (lf abc) 3) 1) := by
  unfold shaL sha
  rw [show abc.length = 3 from rfl, show plen 3 / 64 = 1 by decide]
theorem abc_first : shaL abc 0 = 186#8 := by
  rw [abc_sha]
  unfold dig
  rw [show 0 / 4 = 0 by decide, show 24 - 8 * (0 % 4) = 24 by decide, abc_stm 0 (by omega)]
  apply BitVec.eq_of_toNat_eq
  rw [BitVec.toNat_ofNat, abc0']
theorem abc_last : shaL abc 31 = 173#8 := by
  rw [abc_sha]
  unfold dig
  rw [show 31 / 4 = 7 by decide, show 24 - 8 * (31 % 4) = 0 by decide, abc_stm 7 (by omega), Nat.pow_zero, Nat.div_one]
  apply BitVec.eq_of_toNat_eq
  rw [BitVec.toNat_ofNat, abc31']
end Go.Proofs.YtfkeaglbfembnaaDoor.Sha11
