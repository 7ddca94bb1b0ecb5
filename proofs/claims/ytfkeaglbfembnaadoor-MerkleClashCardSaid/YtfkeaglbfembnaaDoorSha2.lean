/- SHA-256: the words of a block, and the reference's block. -/
import Derived.WalkKit
import Derived.StillTactics
import Derived.Test.YtfkeaglbfembnaaDoorSha1
namespace Go.Proofs.YtfkeaglbfembnaaDoor.Sha2
open Go Go.RowKit Go.Proofs.YtfkeaglbfembnaaDoor.Arr Go.Proofs.YtfkeaglbfembnaaDoor.Sha1
set_option maxRecDepth 100000
set_option linter.unusedVariables false
set_option linter.unusedSimpArgs false
abbrev B8 := BitVec 8
def by8 (v : B8) : Value := .int .u8 (v.toNat : Int)
def word4 (a b c d : B8) : W32 := BitVec.ofNat 32 (a.toNat * 16777216 + b.toNat * 65536 + c.toNat * 256 + d.toNat)
theorem word4_toNat (a b c d : B8) : ((word4 a b c d).toNat : Int) = (a.toNat : Int) * 16777216 + (b.toNat : Int) * 65536 + (c.toNat : Int) * 256 + (d.toNat : Int) := by
  have := a.isLt; have := b.isLt; have := c.isLt; have := d.isLt
  unfold word4; rw [BitVec.toNat_ofNat]; omega
theorem bits_or_nat (x y : Nat) (hx : x < 4294967296) (hy : y < 4294967296) : bits .or .u32 (x : Int) (y : Int) = ((x ||| y : Nat) : Int) := by
  have h := b_or (BitVec.ofNat 32 x) (BitVec.ofNat 32 y)
  rw [BitVec.toNat_or, BitVec.toNat_ofNat, BitVec.toNat_ofNat, Nat.mod_eq_of_lt hx, Nat.mod_eq_of_lt hy] at h
  exact h
theorem word4_or (a b c d : B8) : bits .or .u32 (bits .or .u32 (bits .or .u32 ((a.toNat : Int) * 16777216) ((b.toNat : Int) * 65536)) ((c.toNat : Int) * 256)) (d.toNat : Int) = ((word4 a b c d).toNat : Int) := by
  have ha := a.isLt; have hb := b.isLt; have hc := c.isLt; have hd := d.isLt
  rw [word4_toNat]
  have e1 : a.toNat * 16777216 ||| b.toNat * 65536 = a.toNat * 16777216 + b.toNat * 65536 := by
    have h := Nat.two_pow_add_eq_or_of_lt (i := 24) (b := b.toNat * 65536) (by omega) a.toNat
    rw [show 2 ^ 24 * a.toNat = a.toNat * 16777216 by omega] at h; exact h.symm
  have e2 : (a.toNat * 16777216 + b.toNat * 65536) ||| c.toNat * 256 = a.toNat * 16777216 + b.toNat * 65536 + c.toNat * 256 := by
    have h := Nat.two_pow_add_eq_or_of_lt (i := 16) (b := c.toNat * 256) (by omega) (a.toNat * 256 + b.toNat)
    rw [show 2 ^ 16 * (a.toNat * 256 + b.toNat) = a.toNat * 16777216 + b.toNat * 65536 by omega] at h; exact h.symm
  have e3 : (a.toNat * 16777216 + b.toNat * 65536 + c.toNat * 256) ||| d.toNat = a.toNat * 16777216 + b.toNat * 65536 + c.toNat * 256 + d.toNat := by
    have h := Nat.two_pow_add_eq_or_of_lt (i := 8) (b := d.toNat) (by omega) (a.toNat * 65536 + b.toNat * 256 + c.toNat)
    rw [show 2 ^ 8 * (a.toNat * 65536 + b.toNat * 256 + c.toNat) = a.toNat * 16777216 + b.toNat * 65536 + c.toNat * 256 by omega] at h; exact h.symm
  have f1 : bits .or .u32 ((a.toNat : Int) * 16777216) ((b.toNat : Int) * 65536) = ((a.toNat * 16777216 + b.toNat * 65536 : Nat) : Int) := by
    rw [← e1, ← bits_or_nat _ _ (by omega) (by omega), Int.natCast_mul, Int.natCast_mul]; rfl
  have f2 : bits .or .u32 ((a.toNat * 16777216 + b.toNat * 65536 : Nat) : Int) ((c.toNat : Int) * 256) = ((a.toNat * 16777216 + b.toNat * 65536 + c.toNat * 256 : Nat) : Int) := by
    rw [← e2, ← bits_or_nat _ _ (by omega) (by omega), Int.natCast_mul c.toNat]; rfl
  rw [f1, f2, bits_or_nat _ _ (by omega) (by omega), e3]
  omega
def sig0 (x : W32) : W32 := ror x 7 ^^^ ror x 18 ^^^ (x >>> 3)
def sig1 (x : W32) : W32 := ror x 17 ^^^ ror x 19 ^^^ (x >>> 10)
def sched (B : Nat → B8) : Nat → W32
  | t => if h : t < 16 then word4 (B (4 * t)) (B (4 * t + 1)) (B (4 * t + 2)) (B (4 * t + 3))
    else sig1 (sched B (t - 2)) + sched B (t - 7) + sig0 (sched B (t - 15)) + sched B (t - 16)
termination_by t => t
theorem sched_val (x y z u : W32) : (((bits .xor .u32 (bits .xor .u32 ((ror x 17).toNat : Int) ((ror x 19).toNat : Int)) ((x.toNat : Int) / 1024) + (z.toNat : Int)) % 4294967296 + bits .xor .u32 (bits .xor .u32 ((ror y 7).toNat : Int) ((ror y 18).toNat : Int)) ((y.toNat : Int) / 8)) % 4294967296 + (u.toNat : Int)) % 4294967296 = ((sig1 x + z + sig0 y + u).toNat : Int) := by
  have h1 : (x.toNat : Int) / (1024 : Int) = ((x >>> 10).toNat : Int) := b_shr x 10
  have h2 : (y.toNat : Int) / (8 : Int) = ((y >>> 3).toNat : Int) := b_shr y 3
  rw [h1, h2, b_xor, b_xor, b_xor, b_xor, b_add, b_add, b_add]
  rfl
def cap1 (e : W32) : W32 := ror e 6 ^^^ ror e 11 ^^^ ror e 25
def cap0 (a : W32) : W32 := ror a 2 ^^^ ror a 13 ^^^ ror a 22
def chf (e f g : W32) : W32 := (e &&& f) ^^^ ((e ^^^ 4294967295#32) &&& g)
def majf (a b c : W32) : W32 := (a &&& b) ^^^ (a &&& c) ^^^ (b &&& c)
def tone (k x : W32) (v : Nat → W32) : W32 := v 7 + cap1 (v 4) + chf (v 4) (v 5) (v 6) + k + x
def rstep (k x : W32) (v : Nat → W32) : Nat → W32
  | 0 => tone k x v + cap0 (v 0) + majf (v 0) (v 1) (v 2)
  | 4 => v 3 + tone k x v
  | i => v (i - 1)
def rounds (K W H : Nat → W32) : Nat → Nat → W32
  | 0 => H
  | t + 1 => rstep (K t) (W t) (rounds K W H t)
def blockf (K H : Nat → W32) (B : Nat → B8) (i : Nat) : W32 := H i + rounds K (sched B) H 64 i
theorem sched_lt (B : Nat → B8) (t : Nat) (h : t < 16) : sched B t = word4 (B (4 * t)) (B (4 * t + 1)) (B (4 * t + 2)) (B (4 * t + 3)) := by
  rw [sched, dif_pos h]
theorem sched_ge (B : Nat → B8) (s : Nat) : sched B (s + 16) = sig1 (sched B (s + 14)) + sched B (s + 9) + sig0 (sched B (s + 1)) + sched B s := by
  rw [sched, dif_neg (by omega)]; rfl
/-- A row of n words. -/
def words (n : Nat) (g : Nat → W32) : Array Value := arr n fun i => wd (g i)
theorem words_get (n : Nat) (g : Nat → W32) (i : Nat) (h : i < n) : (words n g)[i]? = some (wd (g i)) := arr_get _ _ _ h
theorem words_size (n : Nat) (g : Nat → W32) : (words n g).size = n := arr_size _ _
theorem words_one (n : Nat) (g : Nat → W32) : (words n g).all (·.oneCell') = true := arr_one _ _ fun _ _ => rfl
theorem words_congr (n : Nat) (f g : Nat → W32) (h : ∀ i, i < n → f i = g i) : words n f = words n g := by
  unfold words; apply arr_congr; intro j hj; rw [h j hj]
theorem words_set (n : Nat) (g : Nat → W32) (i : Nat) (v : W32) : (words n g).setIfInBounds i (wd v) = words n (fun j => if j = i then v else g j) := by
  unfold words; rw [arr_set]; apply arr_congr; intro j _; unfold upd; by_cases h : j = i <;> simp [h]
theorem words8 (g : Nat → W32) : words 8 g = #[wd (g 0), wd (g 1), wd (g 2), wd (g 3), wd (g 4), wd (g 5), wd (g 6), wd (g 7)] := by
  unfold words arr; rfl
theorem emod_bv (s : Int) : s % 4294967296 = ((BitVec.ofInt 32 s).toNat : Int) := by
  rw [BitVec.toNat_ofInt]
  have h1 := Int.emod_nonneg s (show (4294967296 : Int) ≠ 0 by decide)
  have : ((2 ^ 32 : Nat) : Int) = 4294967296 := rfl
  rw [this]; omega
theorem b_not (e : W32) : bits .xor .u32 (e.toNat : Int) 4294967295 = ((e ^^^ 4294967295#32).toNat : Int) := b_xor e 4294967295#32
theorem tone_val (k x : W32) (V : Nat → W32) : BitVec.ofInt 32 (((V 7).toNat : Int) + bits .xor .u32 (bits .xor .u32 ((ror (V 4) 6).toNat : Int) ((ror (V 4) 11).toNat : Int)) ((ror (V 4) 25).toNat : Int) + bits .xor .u32 (bits .and .u32 ((V 4).toNat : Int) ((V 5).toNat : Int)) (bits .and .u32 (bits .xor .u32 ((V 4).toNat : Int) 4294967295) ((V 6).toNat : Int)) + (k.toNat : Int) + (x.toNat : Int)) = tone k x V := by
  rw [b_not, b_xor, b_xor, b_and, b_and, b_xor]
  simp only [BitVec.ofInt_add, ofInt_toNat]
  rfl
theorem row_val (k x : W32) (V : Nat → W32) : #[Value.int .u32 ((((V 7).toNat : Int) + bits .xor .u32 (bits .xor .u32 ((ror (V 4) 6).toNat : Int) ((ror (V 4) 11).toNat : Int)) ((ror (V 4) 25).toNat : Int) + bits .xor .u32 (bits .and .u32 ((V 4).toNat : Int) ((V 5).toNat : Int)) (bits .and .u32 (bits .xor .u32 ((V 4).toNat : Int) 4294967295) ((V 6).toNat : Int)) + (k.toNat : Int) + (x.toNat : Int)
      + bits .xor .u32 (bits .xor .u32 ((ror (V 0) 2).toNat : Int) ((ror (V 0) 13).toNat : Int)) ((ror (V 0) 22).toNat : Int) + bits .xor .u32 (bits .xor .u32 (bits .and .u32 ((V 0).toNat : Int) ((V 1).toNat : Int)) (bits .and .u32 ((V 0).toNat : Int) ((V 2).toNat : Int))) (bits .and .u32 ((V 1).toNat : Int) ((V 2).toNat : Int))) % 4294967296),
      .int .u32 ((V 0).toNat : Int), .int .u32 ((V 1).toNat : Int), .int .u32 ((V 2).toNat : Int),
      .int .u32 ((((V 3).toNat : Int) + (((V 7).toNat : Int) + bits .xor .u32 (bits .xor .u32 ((ror (V 4) 6).toNat : Int) ((ror (V 4) 11).toNat : Int)) ((ror (V 4) 25).toNat : Int) + bits .xor .u32 (bits .and .u32 ((V 4).toNat : Int) ((V 5).toNat : Int)) (bits .and .u32 (bits .xor .u32 ((V 4).toNat : Int) 4294967295) ((V 6).toNat : Int)) + (k.toNat : Int) + (x.toNat : Int))) % 4294967296),
      .int .u32 ((V 4).toNat : Int), .int .u32 ((V 5).toNat : Int), .int .u32 ((V 6).toNat : Int)] = words 8 (rstep k x V) := by
  rw [words8, emod_bv, emod_bv, BitVec.ofInt_add, BitVec.ofInt_add, BitVec.ofInt_add ((V 3).toNat : Int), tone_val, b_xor (ror (V 0) 2), b_xor, b_and, b_and, b_and, b_xor, b_xor, ofInt_toNat, ofInt_toNat, ofInt_toNat]
  rfl
theorem zero_words8 : ∀ w, (zeroValue 34).run Tryd.prog w = .ok (.agg (words 8 fun _ => 0#32)) w := by intro w; kernel_rfl
theorem zero_lit8 : ∀ w, (zeroValue 34).run Tryd.prog w = .ok (.agg #[.int .u32 0, .int .u32 0, .int .u32 0, .int .u32 0, .int .u32 0, .int .u32 0, .int .u32 0, .int .u32 0]) w := by intro w; kernel_rfl
theorem zero_words64 : ∀ w, (zeroValue 41).run Tryd.prog w = .ok (.agg (words 64 fun _ => 0#32)) w := by intro w; kernel_rfl
theorem row34 : RowTy Tryd.prog 34 8 := ⟨_, Tryd.underlying34, rfl, by kernel_rfl⟩
theorem cell5 : CellTy Tryd.prog 5 := ⟨_, Tryd.underlying5, rfl, by kernel_rfl⟩
theorem row41 : RowTy Tryd.prog 41 64 := ⟨_, Tryd.underlying41, rfl, by kernel_rfl⟩
theorem cell33 : CellTy Tryd.prog 33 := ⟨_, Tryd.underlying33, rfl, by kernel_rfl⟩
attribute [irreducible] words
def upto (g : Nat → W32) (k : Nat) (i : Nat) : W32 := if i < k then g i else 0#32
theorem upto_lt (g : Nat → W32) (k i : Nat) (h : i < k) : upto g k i = g i := by unfold upto; rw [if_pos h]
theorem upto_set (g : Nat → W32) (n k : Nat) (v : W32) (hv : v = g k) : (words n (upto g k)).setIfInBounds k (wd v) = words n (upto g (k + 1)) := by
  rw [words_set]; apply words_congr; intro j _
  unfold upto; subst hv
  by_cases e : j = k
  · subst e; simp
  · rw [if_neg e]; by_cases l : j < k
    · rw [if_pos l, if_pos (by omega)]
    · rw [if_neg l, if_neg (by omega)]
theorem upto_zero (n : Nat) (g : Nat → W32) : words n (upto g 0) = words n fun _ => 0#32 := by
  apply words_congr; intro j _; unfold upto; rw [if_neg (by omega)]
def prt (f g : Nat → W32) (k : Nat) (i : Nat) : W32 := if i < k then f i else g i
theorem prt_zero (n : Nat) (f g : Nat → W32) : words n (prt f g 0) = words n g := by
  apply words_congr; intro j _; unfold prt; rw [if_neg (by omega)]
theorem prt_all (n : Nat) (f g : Nat → W32) : words n (prt f g n) = words n f := by
  apply words_congr; intro j h; unfold prt; rw [if_pos h]
theorem prt_at (f g : Nat → W32) (k : Nat) : prt f g k k = g k := by unfold prt; rw [if_neg (by omega)]
theorem prt_set (f g : Nat → W32) (n k : Nat) : (words n (prt f g k)).setIfInBounds k (wd (f k)) = words n (prt f g (k + 1)) := by
  rw [words_set]; apply words_congr; intro j _
  unfold prt
  by_cases e : j = k
  · subst e; simp
  · rw [if_neg e]; by_cases l : j < k
    · rw [if_pos l, if_pos (by omega)]
    · rw [if_neg l, if_neg (by omega)]
/-- What a slice's bytes are. -/
def Bytes (w : World) (b o n : Nat) (B : Nat → B8) : Prop := ∀ i, i < n → w.cell? ⟨b, o + i, none⟩ = some (by8 (B i))
theorem cell_below {C : Nat} {W w1 : World} (hb : Below C W w1) (b o : Nat) (h : b < C) : w1.cell? ⟨b, o, none⟩ = W.cell? ⟨b, o, none⟩ := by
  unfold World.cell?; rw [hb.block b h]

theorem wrap64 (n : Int) (h0 : 0 ≤ n) (h1 : n < 9223372036854775808) : IntKind.i64.wrap n = n := by
  simp [IntKind.wrap, IntKind.bits, IntKind.signed]
  split <;> omega
end Go.Proofs.YtfkeaglbfembnaaDoor.Sha2
