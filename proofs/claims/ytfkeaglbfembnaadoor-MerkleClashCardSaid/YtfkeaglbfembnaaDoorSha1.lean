/- SHA-256: words of 32 bits; words turned to the right. -/
import Derived.WalkKit
import Derived.Test.YtfkeaglbfembnaaDoorProg
import Derived.Test.YtfkeaglbfembnaaDoorArr
namespace Go.Proofs.YtfkeaglbfembnaaDoor.Sha1
open Go Go.RowKit Go.Proofs.YtfkeaglbfembnaaDoor.Arr
set_option maxRecDepth 100000
abbrev W32 := BitVec 32
/-- A word as a value. -/
def wd (v : W32) : Value := .int .u32 (v.toNat : Int)
theorem ofInt_toNat (v : W32) : BitVec.ofInt 32 (v.toNat : Int) = v := by
  apply BitVec.eq_of_toNat_eq; simp
theorem ofInt_nat (n : Nat) : BitVec.ofInt 32 (n : Int) = BitVec.ofNat 32 n := by
  apply BitVec.eq_of_toNat_eq; simp
theorem wrap_toNat (v : W32) : IntKind.u32.wrap (v.toNat : Int) = (v.toNat : Int) := by
  have := v.isLt
  simp only [IntKind.wrap, IntKind.bits, IntKind.signed]
  simp only [Bool.false_and, Bool.false_eq_true, if_false]
  omega
theorem b_xor (a b : W32) : bits .xor .u32 (a.toNat : Int) (b.toNat : Int) = ((a ^^^ b).toNat : Int) := by
  show IntKind.u32.wrap ((BitVec.ofInt 32 (a.toNat : Int) ^^^ BitVec.ofInt 32 (b.toNat : Int)).toNat : Int) = _
  rw [ofInt_toNat, ofInt_toNat, wrap_toNat]
theorem b_and (a b : W32) : bits .and .u32 (a.toNat : Int) (b.toNat : Int) = ((a &&& b).toNat : Int) := by
  show IntKind.u32.wrap ((BitVec.ofInt 32 (a.toNat : Int) &&& BitVec.ofInt 32 (b.toNat : Int)).toNat : Int) = _
  rw [ofInt_toNat, ofInt_toNat, wrap_toNat]
theorem b_or (a b : W32) : bits .or .u32 (a.toNat : Int) (b.toNat : Int) = ((a ||| b).toNat : Int) := by
  show IntKind.u32.wrap ((BitVec.ofInt 32 (a.toNat : Int) ||| BitVec.ofInt 32 (b.toNat : Int)).toNat : Int) = _
  rw [ofInt_toNat, ofInt_toNat, wrap_toNat]
theorem b_add (a b : W32) : ((a.toNat : Int) + (b.toNat : Int)) % 4294967296 = ((a + b).toNat : Int) := by
  rw [BitVec.toNat_add, show (2 : Nat) ^ 32 = 4294967296 from rfl, Int.natCast_emod, Int.natCast_add]; rfl
theorem b_shr (a : W32) (n : Nat) : (a.toNat : Int) / 2 ^ n = ((a >>> n).toNat : Int) := by
  rw [BitVec.toNat_ushiftRight, Nat.shiftRight_eq_div_pow]; norm_cast
theorem b_shl (a : W32) (n : Nat) : (a.toNat : Int) * 2 ^ n % 4294967296 = ((a <<< n).toNat : Int) := by
  rw [BitVec.toNat_shiftLeft, Nat.shiftLeft_eq, show (2 : Nat) ^ 32 = 4294967296 from rfl, Int.natCast_emod, Int.natCast_mul, Int.natCast_pow]; rfl
/-- A word turned to the right. -/
def ror (x : W32) (n : Nat) : W32 := x.rotateRight n
theorem rot_eq (x : W32) (n : Nat) (hn : n < 32) : (x >>> n) ||| (x <<< (32 - n)) = ror x n := by
  unfold ror; rw [BitVec.rotateRight_def]; rw [Nat.mod_eq_of_lt hn]
theorem rot_eq' (x : W32) (n : Nat) (hn : n < 32) : (x <<< (32 - n)) ||| (x >>> n) = ror x n := by
  rw [BitVec.or_comm]; exact rot_eq x n hn
theorem c_rotr (x : W32) (n : Nat) (hn : n < 32) (h0 : 0 < n) (w : World) : Calls Tryd.prog 56 #[.int .u32 (x.toNat : Int), .int .u64 n] w fun e w' => e = .returned (.int .u32 ((ror x n).toNat : Int)) ∧ w' = w := by
  have P := hid (rot_eq x n hn)
  have hx := x.isLt
  go_enter Tryd.func56, Tryd.ntmps56
  go_wp2_with fail
  go_ret
  refine ⟨ret_int ?_, rfl⟩
  show bits .or .u32 ((x.toNat : Int) / 2 ^ n) ((x.toNat : Int) * 2 ^ (32 - n) % 4294967296) = _
  rw [b_shr, b_shl, b_or, P]
theorem c_rol' (x : W32) (k : Int) (m : Nat) (hn : m < 32) (h0 : 0 < m) (h : bits .and .u64 (IntKind.u64.wrap k) 31 = (m : Int)) (w : World) : Calls Tryd.prog 57 #[.int .u32 (x.toNat : Int), .int .i64 k] w fun e w' => e = .returned (.int .u32 ((ror x (32 - m)).toNat : Int)) ∧ w' = w := by
  have P := hid (rot_eq' x (32 - m) (by omega))
  have hx := x.isLt
  go_enter Tryd.func57, Tryd.ntmps57
  go_wp2_with fail
  go_ret
  refine ⟨ret_int ?_, rfl⟩
  show bits .or .u32 ((x.toNat : Int) * 2 ^ m % 4294967296) ((x.toNat : Int) / 2 ^ (32 - m)) = _
  have P := P
  unfold Hid at P
  rw [show 32 - (32 - m) = m by omega] at P
  rw [b_shr, b_shl, b_or, P]
theorem c_rol2 (x : W32) (w : World) : Calls Tryd.prog 57 #[.int .u32 (x.toNat : Int), .int .i64 (-2)] w fun e w' => e = .returned (.int .u32 ((ror x 2).toNat : Int)) ∧ w' = w := c_rol' x (-2) 30 (by omega) (by omega) (by decide) w
theorem c_rol6 (x : W32) (w : World) : Calls Tryd.prog 57 #[.int .u32 (x.toNat : Int), .int .i64 (-6)] w fun e w' => e = .returned (.int .u32 ((ror x 6).toNat : Int)) ∧ w' = w := c_rol' x (-6) 26 (by omega) (by omega) (by decide) w
theorem c_rol7 (x : W32) (w : World) : Calls Tryd.prog 57 #[.int .u32 (x.toNat : Int), .int .i64 (-7)] w fun e w' => e = .returned (.int .u32 ((ror x 7).toNat : Int)) ∧ w' = w := c_rol' x (-7) 25 (by omega) (by omega) (by decide) w
theorem c_rol11 (x : W32) (w : World) : Calls Tryd.prog 57 #[.int .u32 (x.toNat : Int), .int .i64 (-11)] w fun e w' => e = .returned (.int .u32 ((ror x 11).toNat : Int)) ∧ w' = w := c_rol' x (-11) 21 (by omega) (by omega) (by decide) w
theorem c_rol13 (x : W32) (w : World) : Calls Tryd.prog 57 #[.int .u32 (x.toNat : Int), .int .i64 (-13)] w fun e w' => e = .returned (.int .u32 ((ror x 13).toNat : Int)) ∧ w' = w := c_rol' x (-13) 19 (by omega) (by omega) (by decide) w
theorem c_rol17 (x : W32) (w : World) : Calls Tryd.prog 57 #[.int .u32 (x.toNat : Int), .int .i64 (-17)] w fun e w' => e = .returned (.int .u32 ((ror x 17).toNat : Int)) ∧ w' = w := c_rol' x (-17) 15 (by omega) (by omega) (by decide) w
theorem c_rol18 (x : W32) (w : World) : Calls Tryd.prog 57 #[.int .u32 (x.toNat : Int), .int .i64 (-18)] w fun e w' => e = .returned (.int .u32 ((ror x 18).toNat : Int)) ∧ w' = w := c_rol' x (-18) 14 (by omega) (by omega) (by decide) w
theorem c_rol19 (x : W32) (w : World) : Calls Tryd.prog 57 #[.int .u32 (x.toNat : Int), .int .i64 (-19)] w fun e w' => e = .returned (.int .u32 ((ror x 19).toNat : Int)) ∧ w' = w := c_rol' x (-19) 13 (by omega) (by omega) (by decide) w
theorem c_rol22 (x : W32) (w : World) : Calls Tryd.prog 57 #[.int .u32 (x.toNat : Int), .int .i64 (-22)] w fun e w' => e = .returned (.int .u32 ((ror x 22).toNat : Int)) ∧ w' = w := c_rol' x (-22) 10 (by omega) (by omega) (by decide) w
theorem c_rol25 (x : W32) (w : World) : Calls Tryd.prog 57 #[.int .u32 (x.toNat : Int), .int .i64 (-25)] w fun e w' => e = .returned (.int .u32 ((ror x 25).toNat : Int)) ∧ w' = w := c_rol' x (-25) 7 (by omega) (by omega) (by decide) w
end Go.Proofs.YtfkeaglbfembnaaDoor.Sha1
