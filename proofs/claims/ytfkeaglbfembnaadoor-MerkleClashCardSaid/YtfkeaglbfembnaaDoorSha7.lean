/- SHA-256: the hash of all bytes, as a function; Sum, the method, tells it. -/
import Derived.WalkKit
import Derived.StillTactics
import Derived.Outline
import Derived.Test.YtfkeaglbfembnaaDoorSha6
namespace Go.Proofs.YtfkeaglbfembnaaDoor.Sha7
open Go Go.RowKit Go.Proofs.YtfkeaglbfembnaaDoor.Arr Go.Proofs.YtfkeaglbfembnaaDoor.Mid Go.Proofs.YtfkeaglbfembnaaDoor.Sha1 Go.Proofs.YtfkeaglbfembnaaDoor.Sha2 Go.Proofs.YtfkeaglbfembnaaDoor.Sha4 Go.Proofs.YtfkeaglbfembnaaDoor.Sha5 Go.Proofs.YtfkeaglbfembnaaDoor.Sha6
set_option maxRecDepth 100000
set_option linter.unusedVariables false
set_option linter.unusedSimpArgs false
/-- How many bytes there are behind the padding. -/
def plen (n : Nat) : Nat := 64 * ((n + 8) / 64 + 1)
theorem plen_ge (n : Nat) : n + 9 ≤ plen n ∧ plen n % 64 = 0 ∧ plen n ≤ n + 72 ∧ plen n / 64 = (n + 8) / 64 + 1 := by unfold plen; omega
def lenb (n i : Nat) : B8 := BitVec.ofNat 8 ((n * 8) / 2 ^ (56 - 8 * i))
/-- The bytes behind the padding. -/
def pad (M : Nat → B8) (n i : Nat) : B8 := if i < n then M i else if i = n then 128#8 else if i < plen n - 8 then 0#8 else lenb n (i - (plen n - 8))
theorem pad_congr (M N : Nat → B8) (n : Nat) (h : ∀ i, i < n → M i = N i) : pad M n = pad N n := by
  funext i; unfold pad
  by_cases hi : i < n
  · rw [if_pos hi, if_pos hi, h i hi]
  · rw [if_neg hi, if_neg hi]
def dig (H : Nat → W32) (i : Nat) : B8 := BitVec.ofNat 8 ((H (i / 4)).toNat / 2 ^ (24 - 8 * (i % 4)))
/-- The hash of the first n bytes of M. -/
def sha (M : Nat → B8) (n : Nat) : Nat → B8 := dig (stm (pad M n) (plen n / 64))
theorem sha_congr (M N : Nat → B8) (n : Nat) (h : ∀ i, i < n → M i = N i) : sha M n = sha N n := by unfold sha; rw [pad_congr M N n h]
/-- A row of n bytes. -/
def brow (n : Nat) (g : Nat → B8) : Array Value := arr n fun i => by8 (g i)
theorem brow_get (n : Nat) (g : Nat → B8) (i : Nat) (h : i < n) : (brow n g)[i]? = some (by8 (g i)) := arr_get _ _ _ h
theorem brow_size (n : Nat) (g : Nat → B8) : (brow n g).size = n := arr_size _ _
theorem brow_one (n : Nat) (g : Nat → B8) : (brow n g).all (·.oneCell') = true := arr_one _ _ fun _ _ => rfl
theorem brow_congr (n : Nat) (f g : Nat → B8) (h : ∀ i, i < n → f i = g i) : brow n f = brow n g := by
  unfold brow; apply arr_congr; intro j hj; rw [h j hj]
theorem brow_inj (n : Nat) (f g : Nat → B8) (h : brow n f = brow n g) : ∀ i, i < n → f i = g i := by
  intro i hi
  have e := arr_inj n _ _ h i hi
  unfold by8 at e
  injection e with _ e
  exact BitVec.eq_of_toNat_eq (by omega)
theorem brow_set (n : Nat) (g : Nat → B8) (i : Nat) (v : B8) : (brow n g).setIfInBounds i (by8 v) = brow n (fun j => if j = i then v else g j) := by
  unfold brow; rw [arr_set]; apply arr_congr; intro j _; unfold upd; by_cases h : j = i <;> simp [h]
def uptoB (g : Nat → B8) (k i : Nat) : B8 := if i < k then g i else 0#8
theorem uptoB_set (g : Nat → B8) (n k : Nat) (v : B8) (hv : v = g k) : (brow n (uptoB g k)).setIfInBounds k (by8 v) = brow n (uptoB g (k + 1)) := by
  rw [brow_set]; apply brow_congr; intro j _
  unfold uptoB; subst hv
  by_cases e : j = k
  · subst e; simp
  · rw [if_neg e]; by_cases l : j < k
    · rw [if_pos l, if_pos (by omega)]
    · rw [if_neg l, if_neg (by omega)]
theorem uptoB_zero (n : Nat) (g : Nat → B8) : brow n (uptoB g 0) = brow n fun _ => 0#8 := by
  apply brow_congr; intro j _; unfold uptoB; rw [if_neg (by omega)]
theorem uptoB_all (n : Nat) (g : Nat → B8) : brow n (uptoB g n) = brow n g := by
  apply brow_congr; intro j h; unfold uptoB; rw [if_pos h]
theorem row26 : RowTy Tryd.prog 26 32 := ⟨_, Tryd.underlying26, rfl, by kernel_rfl⟩
theorem row38 : RowTy Tryd.prog 38 74 := ⟨_, Tryd.underlying38, rfl, by kernel_rfl⟩
theorem zero26 : ∀ w, (zeroValue 26).run Tryd.prog w = .ok (.agg (brow 32 fun _ => 0#8)) w := by intro w; kernel_rfl
theorem zero75 : ∀ w, (zeroValue 75).run Tryd.prog w = .ok (.agg (brow 8 fun _ => 0#8)) w := by intro w; kernel_rfl
theorem zero38 : ∀ w, (zeroValue 38).run Tryd.prog w = .ok (.agg (hc (fun _ => 0#32) (fun _ => 0#8) 0 false)) w := by intro w; kernel_rfl
attribute [irreducible] brow
theorem cell5 : CellTy Tryd.prog 5 := ⟨_, Tryd.underlying5, rfl, by kernel_rfl⟩
theorem index_words (H : Nat → W32) (i : Nat) (hi : i < 8) (w : World) : (Instr.index 34 (.agg (words 8 H)) (.int .i64 (i : Int))).run Tryd.prog w = .ok (wd (H i)) w := by
  have hp := run_part1 cell33 (w := w) (words_get 8 H i hi)
  have hs : (sizeOf 33).run Tryd.prog w = .ok 1 w := by
    have h1 : (Tryd.prog.info? 33).map (·.size) = some 1 := by kernel_rfl
    cases hq : Tryd.prog.info? 33 with
    | none => simp [hq] at h1
    | some i => simp [hq] at h1; simp [sizeOf, typeInfo, hq, h1]
  have h8 : 0 ≤ (i : Int) ∧ (i : Int) < ((8 : Nat) : Int) := by omega
  simp only [Instr.index, asIntOf, Sem.run_bind, Sem.run_pure, Result.andThen_ok, run_underlying Tryd.underlying34]
  rw [if_pos h8]
  simp only [Sem.run_bind, hs, Result.andThen_ok, Int.toNat_natCast, Nat.mul_one]
  exact hp
/-- Four bytes of a word. -/
theorem dig_val (H : Nat → W32) (t k : Nat) (hk : k < 4) (x : Int) (hx : x = (((H t).toNat / 2 ^ (24 - 8 * k) % 256 : Nat) : Int)) : Value.int .u8 x = by8 (dig H (4 * t + k)) := by
  subst hx
  unfold by8 dig
  rw [show (4 * t + k) / 4 = t by omega, show (4 * t + k) % 4 = k by omega, BitVec.toNat_ofNat]
theorem dig_row (H : Nat → W32) (t : Nat) : (((((brow 32 (uptoB (dig H) (4 * t))).setIfInBounds (4 * t) (.int .u8 (((H t).toNat : Int) / 16777216))).setIfInBounds (4 * t + 1) (.int .u8 (((H t).toNat : Int) / 65536 % 256))).setIfInBounds (4 * t + 2) (.int .u8 (((H t).toNat : Int) / 256 % 256))).setIfInBounds (4 * t + 3) (.int .u8 (((H t).toNat : Int) % 256)))
    = brow 32 (uptoB (dig H) (4 * (t + 1))) := by
  have hl := (H t).isLt
  rw [dig_val H t 3 (by omega) (((H t).toNat : Int) % 256) (by show _ = (((H t).toNat / 1 % 256 : Nat) : Int); omega), dig_val H t 2 (by omega) (((H t).toNat : Int) / 256 % 256) (by show _ = (((H t).toNat / 256 % 256 : Nat) : Int); omega),
    dig_val H t 1 (by omega) (((H t).toNat : Int) / 65536 % 256) (by show _ = (((H t).toNat / 65536 % 256 : Nat) : Int); omega), dig_val H t 0 (by omega) (((H t).toNat : Int) / 16777216) (by show _ = (((H t).toNat / 16777216 % 256 : Nat) : Int); omega),
    Nat.add_zero, uptoB_set _ _ _ _ rfl, uptoB_set _ _ _ _ rfl, uptoB_set _ _ _ _ rfl, uptoB_set _ _ _ _ rfl]
  rfl
theorem lenb_val (n t : Nat) : Value.int .u8 ((n : Int) * 8 / 2 ^ (56 - 8 * t) % 256) = by8 (lenb n t) := by
  unfold by8 lenb
  rw [BitVec.toNat_ofNat, show 2 ^ 8 = 256 from rfl, Int.natCast_emod, Int.natCast_ediv, Int.natCast_mul, Int.natCast_pow]; rfl
theorem name_calls {P : Program} {f : FuncId} {args : Array Value} {R : Ending → World → Prop} (w : World) (h : ∀ W, W = w → Calls P f args W R) : Calls P f args w R := h w rfl
theorem pad_at (M : Nat → B8) (n : Nat) : pad M n n = 128#8 := by unfold pad; rw [if_neg (by omega), if_pos rfl]
theorem pad_zero (M : Nat → B8) (n p : Nat) (h : n < p) (k : p < plen n - 8) : pad M n p = 0#8 := by unfold pad; rw [if_neg (by omega), if_neg (by omega), if_pos k]
theorem pad_len (M : Nat → B8) (n i : Nat) : pad M n (plen n - 8 + i) = lenb n i := by
  have := plen_ge n
  unfold pad; rw [if_neg (by omega), if_neg (by omega), if_neg (by omega)]; congr 1; omega
/-- One new byte, in a block of its own. -/
theorem src_one {w : World} {b g : Nat} {x : Int} {f : Nat → B8} {t : TypeId} {fr : Nat × Nat} (h : w.heap[b]? = some (.cells #[.int .u8 x] t fr)) (hb : b ≠ g) (hv : x = ((f 0).toNat : Int)) : Src w g (some ⟨b, 0, none⟩) 1 f :=
  fun _ => ⟨b, 0, rfl, hb, lt_of h, fun i hi => by
    obtain rfl : i = 0 := by omega
    unfold by8; rw [← hv]; exact cell_of h rfl⟩
/-- What a hash is that Sum is asked of: none, or the first n bytes of M. -/
def Hnil (w : World) (A : Option Addr) (M : Nat → B8) (n : Nat) : Prop := (A = none ∧ n = 0) ∨ ∃ g, A = some ⟨g, 0, none⟩ ∧ 1 < g ∧ Hst w g M n
set_option maxHeartbeats 8000000 in
theorem c_sum (A : Option Addr) (M : Nat → B8) (n : Nat) (w : World) (hG : Glob w) (hA : Hnil w A M n) (hn : n < 100000000000000) :
    Calls Tryd.prog 21 #[.pointer A] w fun e w' => e = .returned (.agg (brow 32 (sha M n))) ∧ Below w.heap.size w w' := by
  have hlt := glob_lt hG
  have z26 := zero26
  rcases hA with ⟨rfl, hn0⟩ | ⟨g, rfl, hg, h⟩
  have z38 : ∀ w, (zeroValue 38).run Tryd.prog w = .ok (.agg (hc (fun _ => 0#32) (fun _ => 0#8) n false)) w := by subst hn0; exact zero38
  have HN0 := hid hn0
  clear hn0
  go_enter Tryd.func21, Tryd.ntmps21
  go_wp2_with (first | ((with_reducible refine Arr.arm_load1 cell36 rfl ?_); refine ⟨rfl, _, _, _, _, _, _, rfl, by (with_reducible repeat (first | assumption | (refine p1 ?_; (first | omega | (simp <;> omega))) | (refine p2 ?_ ?_; focus (first | omega | (simp <;> omega))) | refine p3 ?_ | refine p4 ?_ | apply p5 | (refine p6 ?_ ?_; focus (first | omega | (simp <;> omega))) | apply p7 | (refine p8 ?_ ?_; focus (first | omega | (simp <;> omega))) | (refine p9 (by assumption) ?_ ?_; focus (first | omega | (simp <;> omega))) | (refine p10 (by assumption) ?_ ?_; focus (first | omega | (simp <;> omega))))), by (exact hc_n _ _ _ _), ?_⟩) | fail)
  refine name_calls _ (fun W hW => ?_)
  have g0 : W.heap[w.heap.size]? = some (.cells (brow 32 fun _ => 0#8) 26 (0, 0)) := by rw [hW]; (with_reducible repeat (first | assumption | (refine p1 ?_; (first | omega | (simp <;> omega))) | (refine p2 ?_ ?_; focus (first | omega | (simp <;> omega))) | refine p3 ?_ | refine p4 ?_ | apply p5 | (refine p6 ?_ ?_; focus (first | omega | (simp <;> omega))) | apply p7 | (refine p8 ?_ ?_; focus (first | omega | (simp <;> omega))) | (refine p9 (by assumption) ?_ ?_; focus (first | omega | (simp <;> omega))) | (refine p10 (by assumption) ?_ ?_; focus (first | omega | (simp <;> omega)))))
  obtain ⟨H, R, bg, g1, HH⟩ : ∃ H R bg, W.heap[w.heap.size + 1]? = some (.cells (hc H R n bg) 38 (0, 0)) ∧ Hid (∀ w' g', w'.heap[g']? = some (.cells (hc H R n bg) 38 (0, 0)) → Hst w' g' (pad M n) n) :=
    ⟨fun _ => 0#32, fun _ => 0#8, false, by rw [hW]; (with_reducible repeat (first | assumption | (refine p1 ?_; (first | omega | (simp <;> omega))) | (refine p2 ?_ ?_; focus (first | omega | (simp <;> omega))) | refine p3 ?_ | refine p4 ?_ | apply p5 | (refine p6 ?_ ?_; focus (first | omega | (simp <;> omega))) | apply p7 | (refine p8 ?_ ?_; focus (first | omega | (simp <;> omega))) | (refine p9 (by assumption) ?_ ?_; focus (first | omega | (simp <;> omega))) | (refine p10 (by assumption) ?_ ?_; focus (first | omega | (simp <;> omega))))), fun w' g' h' => .inr ⟨HN0.out, by have e := HN0.out; subst e; exact h'⟩⟩
  have g2 : W.heap[w.heap.size + 1 + 1]? = some (.cells #[.int .u8 128] 5 (0, 0)) := by rw [hW]; (with_reducible repeat (first | assumption | (refine p1 ?_; (first | omega | (simp <;> omega))) | (refine p2 ?_ ?_; focus (first | omega | (simp <;> omega))) | refine p3 ?_ | refine p4 ?_ | apply p5 | (refine p6 ?_ ?_; focus (first | omega | (simp <;> omega))) | apply p7 | (refine p8 ?_ ?_; focus (first | omega | (simp <;> omega))) | (refine p9 (by assumption) ?_ ?_; focus (first | omega | (simp <;> omega))) | (refine p10 (by assumption) ?_ ?_; focus (first | omega | (simp <;> omega)))))
  have hB : Below w.heap.size w W := by rw [hW]; (with_reducible repeat (first | assumption | exact Below.refl _ _ | (refine b4 ?_ ?_; focus (first | omega | (simp <;> omega))) | refine b2 ?_ | refine Below.drew ?_ | (refine b5 ?_ ?_; focus (first | omega | (simp <;> omega))) | (refine b1 ?_ ?_; focus (first | omega | (simp <;> omega))) | (refine b3 (by assumption) ?_ ?_; focus (first | omega | (simp <;> omega))) | (refine b6 (by assumption) ?_ ?_; focus (first | omega | (simp <;> omega)))))
  clear hW z38
  rotate_left
  obtain ⟨H, R, bg, hh, hHst⟩ : ∃ H R bg, w.heap[g]? = some (.cells (hc H R n bg) 38 (0, 0)) ∧ ∀ w' g', w'.heap[g']? = some (.cells (hc H R n bg) 38 (0, 0)) → Hst w' g' (pad M n) n := by
    rcases h with ⟨R, hR, h⟩ | ⟨rfl, h⟩
    · refine ⟨_, R, true, h, fun w' g' h' => hst_congr (M := M) (.inl ⟨R, hR, h'⟩) (fun i hi => ?_)⟩
      unfold pad; rw [if_pos hi]
    · exact ⟨_, _, false, h, fun w' g' h' => .inr ⟨rfl, h'⟩⟩
  have HH := hid hHst
  clear hHst h
  have z38 := zero38
  have hlg := lt_of hh
  have c72 := cell_of hh (hc_n _ _ _ _)
  go_enter Tryd.func21, Tryd.ntmps21
  go_wp2_with (first | ((with_reducible refine Arr.arm_load row38 rfl ?_); refine ⟨rfl, _, _, _, _, rfl, by (with_reducible repeat (first | assumption | (refine p1 ?_; (first | omega | (simp <;> omega))) | (refine p2 ?_ ?_; focus (first | omega | (simp <;> omega))) | refine p3 ?_ | refine p4 ?_ | apply p5 | (refine p6 ?_ ?_; focus (first | omega | (simp <;> omega))) | apply p7 | (refine p8 ?_ ?_; focus (first | omega | (simp <;> omega))) | (refine p9 (by assumption) ?_ ?_; focus (first | omega | (simp <;> omega))) | (refine p10 (by assumption) ?_ ?_; focus (first | omega | (simp <;> omega))))), by (exact hc_size _ _ _ _), ?_⟩; skip) | ((with_reducible refine Arr.arm_store row38 rfl ?_); refine ⟨rfl, _, _, _, _, rfl, rfl, by (with_reducible repeat (first | assumption | (refine p1 ?_; (first | omega | (simp <;> omega))) | (refine p2 ?_ ?_; focus (first | omega | (simp <;> omega))) | refine p3 ?_ | refine p4 ?_ | apply p5 | (refine p6 ?_ ?_; focus (first | omega | (simp <;> omega))) | apply p7 | (refine p8 ?_ ?_; focus (first | omega | (simp <;> omega))) | (refine p9 (by assumption) ?_ ?_; focus (first | omega | (simp <;> omega))) | (refine p10 (by assumption) ?_ ?_; focus (first | omega | (simp <;> omega))))), by (exact hc_size _ _ _ _), by (exact hc_size _ _ _ _), by (exact hc_one _ _ _ _), ?_⟩) | ((with_reducible refine Arr.arm_load1 cell36 rfl ?_); refine ⟨rfl, _, _, _, _, _, _, rfl, by (with_reducible repeat (first | assumption | (refine p1 ?_; (first | omega | (simp <;> omega))) | (refine p2 ?_ ?_; focus (first | omega | (simp <;> omega))) | refine p3 ?_ | refine p4 ?_ | apply p5 | (refine p6 ?_ ?_; focus (first | omega | (simp <;> omega))) | apply p7 | (refine p8 ?_ ?_; focus (first | omega | (simp <;> omega))) | (refine p9 (by assumption) ?_ ?_; focus (first | omega | (simp <;> omega))) | (refine p10 (by assumption) ?_ ?_; focus (first | omega | (simp <;> omega))))), by (exact hc_n _ _ _ _), ?_⟩) | fail)
  refine name_calls _ (fun W hW => ?_)
  have g0 : W.heap[w.heap.size]? = some (.cells (brow 32 fun _ => 0#8) 26 (0, 0)) := by rw [hW]; (with_reducible repeat (first | assumption | (refine p1 ?_; (first | omega | (simp <;> omega))) | (refine p2 ?_ ?_; focus (first | omega | (simp <;> omega))) | refine p3 ?_ | refine p4 ?_ | apply p5 | (refine p6 ?_ ?_; focus (first | omega | (simp <;> omega))) | apply p7 | (refine p8 ?_ ?_; focus (first | omega | (simp <;> omega))) | (refine p9 (by assumption) ?_ ?_; focus (first | omega | (simp <;> omega))) | (refine p10 (by assumption) ?_ ?_; focus (first | omega | (simp <;> omega)))))
  have g1 : W.heap[w.heap.size + 1]? = some (.cells (hc H R n bg) 38 (0, 0)) := by rw [hW]; (with_reducible repeat (first | assumption | (refine p1 ?_; (first | omega | (simp <;> omega))) | (refine p2 ?_ ?_; focus (first | omega | (simp <;> omega))) | refine p3 ?_ | refine p4 ?_ | apply p5 | (refine p6 ?_ ?_; focus (first | omega | (simp <;> omega))) | apply p7 | (refine p8 ?_ ?_; focus (first | omega | (simp <;> omega))) | (refine p9 (by assumption) ?_ ?_; focus (first | omega | (simp <;> omega))) | (refine p10 (by assumption) ?_ ?_; focus (first | omega | (simp <;> omega)))))
  have g2 : W.heap[w.heap.size + 1 + 1]? = some (.cells #[.int .u8 128] 5 (0, 0)) := by rw [hW]; (with_reducible repeat (first | assumption | (refine p1 ?_; (first | omega | (simp <;> omega))) | (refine p2 ?_ ?_; focus (first | omega | (simp <;> omega))) | refine p3 ?_ | refine p4 ?_ | apply p5 | (refine p6 ?_ ?_; focus (first | omega | (simp <;> omega))) | apply p7 | (refine p8 ?_ ?_; focus (first | omega | (simp <;> omega))) | (refine p9 (by assumption) ?_ ?_; focus (first | omega | (simp <;> omega))) | (refine p10 (by assumption) ?_ ?_; focus (first | omega | (simp <;> omega)))))
  have hB : Below w.heap.size w W := by rw [hW]; (with_reducible repeat (first | assumption | exact Below.refl _ _ | (refine b4 ?_ ?_; focus (first | omega | (simp <;> omega))) | refine b2 ?_ | refine Below.drew ?_ | (refine b5 ?_ ?_; focus (first | omega | (simp <;> omega))) | (refine b1 ?_ ?_; focus (first | omega | (simp <;> omega))) | (refine b3 (by assumption) ?_ ?_; focus (first | omega | (simp <;> omega))) | (refine b6 (by assumption) ?_ ?_; focus (first | omega | (simp <;> omega)))))
  clear hW z38 c72 hh hlg
  all_goals
    have s1 := src_one (g := w.heap.size + 1) (f := fun i => pad M n (n + i)) g2 (by omega) (by show 128 = _; rw [Nat.add_zero, pad_at]; rfl)
    refine (c_write (w.heap.size + 1) (pad M n) n 1 1 _ W (glob_below hG hB hlt) (by omega) (HH.out _ _ g1) s1 (by omega) (by omega)).mono ?_
    rintro e w1 ⟨rfl, hS, b1⟩
    have hw0 := lt_of g1
    have hB1 : Below w.heap.size w w1 := by (with_reducible repeat (first | assumption | exact Below.refl _ _ | (refine b4 ?_ ?_; focus (first | omega | (simp <;> omega))) | refine b2 ?_ | refine Below.drew ?_ | (refine b5 ?_ ?_; focus (first | omega | (simp <;> omega))) | (refine b1 ?_ ?_; focus (first | omega | (simp <;> omega))) | (refine b3 (by assumption) ?_ ?_; focus (first | omega | (simp <;> omega))) | (refine b6 (by assumption) ?_ ?_; focus (first | omega | (simp <;> omega)))))
    have g01 : w1.heap[w.heap.size]? = some (.cells (brow 32 fun _ => 0#8) 26 (0, 0)) := by (with_reducible repeat (first | assumption | (refine p1 ?_; (first | omega | (simp <;> omega))) | (refine p2 ?_ ?_; focus (first | omega | (simp <;> omega))) | refine p3 ?_ | refine p4 ?_ | apply p5 | (refine p6 ?_ ?_; focus (first | omega | (simp <;> omega))) | apply p7 | (refine p8 ?_ ?_; focus (first | omega | (simp <;> omega))) | (refine p9 (by assumption) ?_ ?_; focus (first | omega | (simp <;> omega))) | (refine p10 (by assumption) ?_ ?_; focus (first | omega | (simp <;> omega)))))
    clear s1 g0 g1 g2 hB b1
    obtain ⟨N, hN⟩ : ∃ N, N = plen n - 8 := ⟨_, rfl⟩
    have hN1 : n + 1 ≤ N := by have := plen_ge n; omega
    have hN2 : N ≤ n + 64 := by have := plen_ge n; omega
    have hN3 : Hid (N % 64 = 56) := by show N % 64 = 56; have := plen_ge n; omega
    have HN := hid hN
    clear hN
    go_wp2_with fail
    go_loopg [21] (N - (n + 1)) (fun k _ wr => ∃ p, n + 1 ≤ p ∧ p + k = N ∧ Hs wr (w.heap.size + 1) (pad M n) p ∧ wr.heap[w.heap.size]? = some (.cells (brow 32 fun _ => 0#8) 26 (0, 0)) ∧ Below w.heap.size w wr)
    case atStart => exact ⟨n + 1, by omega, by omega, hS, g01, hB1⟩
    case round =>
      clear hS g01 hB1
      obtain ⟨p, hp1, hp2, ⟨R', hR', g1⟩, g0, hB⟩ := hrel
      have HP2 := hid hp2
      have hp3 : p ≤ N := by omega
      clear hp2
      have c72 := cell_of g1 (hc_n _ _ _ _)
      have hw0 := lt_of g1
      by_cases hpN : p < N
      · have t1 : ((p : Int) % 64 == 56) = false := by rw [beq_eq_false_iff_ne]; have := hN3.out; omega
        go_wp2_with fail
        refine name_calls _ (fun W hW => ?_)
        have g0' : W.heap[w.heap.size]? = some (.cells (brow 32 fun _ => 0#8) 26 (0, 0)) := by rw [hW]; (with_reducible repeat (first | assumption | (refine p1 ?_; (first | omega | (simp <;> omega))) | (refine p2 ?_ ?_; focus (first | omega | (simp <;> omega))) | refine p3 ?_ | refine p4 ?_ | apply p5 | (refine p6 ?_ ?_; focus (first | omega | (simp <;> omega))) | apply p7 | (refine p8 ?_ ?_; focus (first | omega | (simp <;> omega))) | (refine p9 (by assumption) ?_ ?_; focus (first | omega | (simp <;> omega))) | (refine p10 (by assumption) ?_ ?_; focus (first | omega | (simp <;> omega)))))
        have g1' : W.heap[w.heap.size + 1]? = some (.cells (hc (stm (pad M n) (p / 64)) R' p true) 38 (0, 0)) := by rw [hW]; (with_reducible repeat (first | assumption | (refine p1 ?_; (first | omega | (simp <;> omega))) | (refine p2 ?_ ?_; focus (first | omega | (simp <;> omega))) | refine p3 ?_ | refine p4 ?_ | apply p5 | (refine p6 ?_ ?_; focus (first | omega | (simp <;> omega))) | apply p7 | (refine p8 ?_ ?_; focus (first | omega | (simp <;> omega))) | (refine p9 (by assumption) ?_ ?_; focus (first | omega | (simp <;> omega))) | (refine p10 (by assumption) ?_ ?_; focus (first | omega | (simp <;> omega)))))
        have g2' : W.heap[wr.heap.size]? = some (.cells #[.int .u8 0] 5 (0, 0)) := by rw [hW]; (with_reducible repeat (first | assumption | (refine p1 ?_; (first | omega | (simp <;> omega))) | (refine p2 ?_ ?_; focus (first | omega | (simp <;> omega))) | refine p3 ?_ | refine p4 ?_ | apply p5 | (refine p6 ?_ ?_; focus (first | omega | (simp <;> omega))) | apply p7 | (refine p8 ?_ ?_; focus (first | omega | (simp <;> omega))) | (refine p9 (by assumption) ?_ ?_; focus (first | omega | (simp <;> omega))) | (refine p10 (by assumption) ?_ ?_; focus (first | omega | (simp <;> omega)))))
        have hB' : Below w.heap.size w W := by rw [hW]; (with_reducible repeat (first | assumption | exact Below.refl _ _ | (refine b4 ?_ ?_; focus (first | omega | (simp <;> omega))) | refine b2 ?_ | refine Below.drew ?_ | (refine b5 ?_ ?_; focus (first | omega | (simp <;> omega))) | (refine b1 ?_ ?_; focus (first | omega | (simp <;> omega))) | (refine b3 (by assumption) ?_ ?_; focus (first | omega | (simp <;> omega))) | (refine b6 (by assumption) ?_ ?_; focus (first | omega | (simp <;> omega)))))
        clear hW
        have s1 := src_one (g := w.heap.size + 1) (f := fun i => pad M n (p + i)) g2' (by omega) (by show 0 = _; rw [Nat.add_zero, pad_zero M n p (by omega) (by rw [← HN.out]; omega)]; rfl)
        refine (c_write (w.heap.size + 1) (pad M n) p 1 1 _ W (glob_below hG hB' hlt) (by omega) (.inl ⟨R', hR', g1'⟩) s1 (by omega) (by omega)).mono ?_
        rintro e w2 ⟨rfl, hS, b2⟩
        have hw1 := lt_of g1'
        have hB2 : Below w.heap.size w w2 := by (with_reducible repeat (first | assumption | exact Below.refl _ _ | (refine b4 ?_ ?_; focus (first | omega | (simp <;> omega))) | refine b2 ?_ | refine Below.drew ?_ | (refine b5 ?_ ?_; focus (first | omega | (simp <;> omega))) | (refine b1 ?_ ?_; focus (first | omega | (simp <;> omega))) | (refine b3 (by assumption) ?_ ?_; focus (first | omega | (simp <;> omega))) | (refine b6 (by assumption) ?_ ?_; focus (first | omega | (simp <;> omega)))))
        have g02 : w2.heap[w.heap.size]? = some (.cells (brow 32 fun _ => 0#8) 26 (0, 0)) := by (with_reducible repeat (first | assumption | (refine p1 ?_; (first | omega | (simp <;> omega))) | (refine p2 ?_ ?_; focus (first | omega | (simp <;> omega))) | refine p3 ?_ | refine p4 ?_ | apply p5 | (refine p6 ?_ ?_; focus (first | omega | (simp <;> omega))) | apply p7 | (refine p8 ?_ ?_; focus (first | omega | (simp <;> omega))) | (refine p9 (by assumption) ?_ ?_; focus (first | omega | (simp <;> omega))) | (refine p10 (by assumption) ?_ ?_; focus (first | omega | (simp <;> omega)))))
        clear s1 g0' g1' g2' hB' b2 c72
        go_wp2_with fail
        go_roundg (N - (p + 1))
        case measure => have := HP2.out; omega
        case rel => exact ⟨p + 1, by omega, by omega, hS, g02, hB2⟩
      · have t1 : ((p : Int) % 64 == 56) = true := by rw [beq_iff_eq]; have := hN3.out; omega
        have hp : p = N := by omega
        have HPN := hid hp
        clear hp HP2
        have z75 := zero75
        go_wp2_with fail
        obtain ⟨w3, hw3⟩ : ∃ w3 : World, w3 = wr := ⟨_, rfl⟩
        subst hw3
        go_loopg [26, 6] 8 (fun k i _ wr => ∃ t : Nat, t + k = 8 ∧ i = .int .i64 t ∧ wr.heap[w3.heap.size]? = some (.cells (brow 8 (uptoB (lenb n) t)) 75 (0, 0)) ∧ Below w3.heap.size w3 wr)
        case atStart => exact ⟨0, by omega, rfl, by rw [uptoB_zero]; (with_reducible repeat (first | assumption | (refine p1 ?_; (first | omega | (simp <;> omega))) | (refine p2 ?_ ?_; focus (first | omega | (simp <;> omega))) | refine p3 ?_ | refine p4 ?_ | apply p5 | (refine p6 ?_ ?_; focus (first | omega | (simp <;> omega))) | apply p7 | (refine p8 ?_ ?_; focus (first | omega | (simp <;> omega))) | (refine p9 (by assumption) ?_ ?_; focus (first | omega | (simp <;> omega))) | (refine p10 (by assumption) ?_ ?_; focus (first | omega | (simp <;> omega))))), by (with_reducible repeat (first | assumption | exact Below.refl _ _ | (refine b4 ?_ ?_; focus (first | omega | (simp <;> omega))) | refine b2 ?_ | refine Below.drew ?_ | (refine b5 ?_ ?_; focus (first | omega | (simp <;> omega))) | (refine b1 ?_ ?_; focus (first | omega | (simp <;> omega))) | (refine b3 (by assumption) ?_ ?_; focus (first | omega | (simp <;> omega))) | (refine b6 (by assumption) ?_ ?_; focus (first | omega | (simp <;> omega)))))⟩
        case round =>
          obtain ⟨t, ht, rfl, g3, hB3⟩ := hrel
          have HT := hid ht
          have ht8 : t ≤ 8 := by omega
          clear ht
          by_cases h8 : t < 8
          · have e0 : IntKind.i64.wrap (8 * (t : Int)) = 8 * (t : Int) := wrap64 _ (by omega) (by omega)
            have e1 : IntKind.i64.wrap (56 - 8 * (t : Int)) = 56 - 8 * (t : Int) := wrap64 _ (by omega) (by omega)
            have e2 : (0 : Int) ≤ 56 - 8 * (t : Int) := by omega
            have e3 : 56 - 8 * (t : Int) < 64 := by omega
            have e4 : (t : Int) < 8 := by omega
            have e5 : (56 - 8 * (t : Int)).toNat = 56 - 8 * t := by omega
            go_wp2_with (first | ((with_reducible refine Arr.arm_store1 cell5 rfl ?_); refine ⟨rfl, _, _, _, _, _, rfl, rfl, by (with_reducible repeat (first | assumption | (refine p1 ?_; (first | omega | (simp <;> omega))) | (refine p2 ?_ ?_; focus (first | omega | (simp <;> omega))) | refine p3 ?_ | refine p4 ?_ | apply p5 | (refine p6 ?_ ?_; focus (first | omega | (simp <;> omega))) | apply p7 | (refine p8 ?_ ?_; focus (first | omega | (simp <;> omega))) | (refine p9 (by assumption) ?_ ?_; focus (first | omega | (simp <;> omega))) | (refine p10 (by assumption) ?_ ?_; focus (first | omega | (simp <;> omega))))), by (rw [brow_size]; omega), rfl, ?_⟩; (try simp only [Act.put, Act.eval, List.setIfInBounds_toArray, List.set_cons_zero, List.set_cons_succ, Array.getD_eq_getD_getElem?, List.getElem?_toArray, List.getElem?_cons_zero, List.getElem?_cons_succ, Option.getD_some])))
            go_roundg (8 - (t + 1))
            case measure => have := HT.out; omega
            case rel =>
              refine ⟨t + 1, by omega, by go_num, ?_, by (with_reducible repeat (first | assumption | exact Below.refl _ _ | (refine b4 ?_ ?_; focus (first | omega | (simp <;> omega))) | refine b2 ?_ | refine Below.drew ?_ | (refine b5 ?_ ?_; focus (first | omega | (simp <;> omega))) | (refine b1 ?_ ?_; focus (first | omega | (simp <;> omega))) | (refine b3 (by assumption) ?_ ?_; focus (first | omega | (simp <;> omega))) | (refine b6 (by assumption) ?_ ?_; focus (first | omega | (simp <;> omega)))))⟩
              rw [← uptoB_set (lenb n) 8 t _ rfl]
              rw [← lenb_val]
              (with_reducible repeat (first | assumption | (refine p1 ?_; (first | omega | (simp <;> omega))) | (refine p2 ?_ ?_; focus (first | omega | (simp <;> omega))) | refine p3 ?_ | refine p4 ?_ | apply p5 | (refine p6 ?_ ?_; focus (first | omega | (simp <;> omega))) | apply p7 | (refine p8 ?_ ?_; focus (first | omega | (simp <;> omega))) | (refine p9 (by assumption) ?_ ?_; focus (first | omega | (simp <;> omega))) | (refine p10 (by assumption) ?_ ?_; focus (first | omega | (simp <;> omega)))))
          · have e : t = 8 := by omega
            subst e
            clear z75 HT h8 ht8
            rw [uptoB_all] at g3
            have hG' := glob_below hG hB hlt
            have hl3 := lt_of g3
            go_wp2_with fail
            have g0w : wr.heap[w.heap.size]? = some (.cells (brow 32 fun _ => 0#8) 26 (0, 0)) := by (with_reducible repeat (first | assumption | (refine p1 ?_; (first | omega | (simp <;> omega))) | (refine p2 ?_ ?_; focus (first | omega | (simp <;> omega))) | refine p3 ?_ | refine p4 ?_ | apply p5 | (refine p6 ?_ ?_; focus (first | omega | (simp <;> omega))) | apply p7 | (refine p8 ?_ ?_; focus (first | omega | (simp <;> omega))) | (refine p9 (by assumption) ?_ ?_; focus (first | omega | (simp <;> omega))) | (refine p10 (by assumption) ?_ ?_; focus (first | omega | (simp <;> omega)))))
            have hBw0 : Hid (Below w.heap.size w wr) := by show Below w.heap.size w wr; (with_reducible repeat (first | assumption | exact Below.refl _ _ | (refine b4 ?_ ?_; focus (first | omega | (simp <;> omega))) | refine b2 ?_ | refine Below.drew ?_ | (refine b5 ?_ ?_; focus (first | omega | (simp <;> omega))) | (refine b1 ?_ ?_; focus (first | omega | (simp <;> omega))) | (refine b3 (by assumption) ?_ ?_; focus (first | omega | (simp <;> omega))) | (refine b6 (by assumption) ?_ ?_; focus (first | omega | (simp <;> omega)))))
            have g1w : wr.heap[w.heap.size + 1]? = some (.cells (hc (stm (pad M n) (p / 64)) R' p true) 38 (0, 0)) := by (with_reducible repeat (first | assumption | (refine p1 ?_; (first | omega | (simp <;> omega))) | (refine p2 ?_ ?_; focus (first | omega | (simp <;> omega))) | refine p3 ?_ | refine p4 ?_ | apply p5 | (refine p6 ?_ ?_; focus (first | omega | (simp <;> omega))) | apply p7 | (refine p8 ?_ ?_; focus (first | omega | (simp <;> omega))) | (refine p9 (by assumption) ?_ ?_; focus (first | omega | (simp <;> omega))) | (refine p10 (by assumption) ?_ ?_; focus (first | omega | (simp <;> omega)))))
            have hBw := hBw0.out
            have hSp : Hst wr (w.heap.size + 1) (pad M n) p := .inl ⟨R', hR', g1w⟩
            have s8 : Src wr (w.heap.size + 1) (some ⟨w3.heap.size, 0, none⟩) 8 (fun i => pad M n (p + i)) := by
              intro _
              refine ⟨_, 0, rfl, by omega, hl3, fun i hi => ?_⟩
              show _ = some (by8 (pad M n (p + i)))
              rw [show pad M n (p + i) = lenb n i by rw [HPN.out, HN.out, pad_len], Nat.zero_add]
              exact cell_of g3 (brow_get 8 _ i hi)
            refine (c_write (w.heap.size + 1) (pad M n) p 8 8 _ wr (glob_below hG hBw hlt) (by omega) hSp s8 (by omega) (by omega)).mono ?_
            rintro e w5 ⟨rfl, ⟨R5, hR5, g5⟩, b5⟩
            have hB5 : Below w.heap.size w w5 := by (with_reducible repeat (first | assumption | exact Below.refl _ _ | (refine b4 ?_ ?_; focus (first | omega | (simp <;> omega))) | refine b2 ?_ | refine Below.drew ?_ | (refine b5 ?_ ?_; focus (first | omega | (simp <;> omega))) | (refine b1 ?_ ?_; focus (first | omega | (simp <;> omega))) | (refine b3 (by assumption) ?_ ?_; focus (first | omega | (simp <;> omega))) | (refine b6 (by assumption) ?_ ?_; focus (first | omega | (simp <;> omega)))))
            have g05 : w5.heap[w.heap.size]? = some (.cells (brow 32 fun _ => 0#8) 26 (0, 0)) := by (with_reducible repeat (first | assumption | (refine p1 ?_; (first | omega | (simp <;> omega))) | (refine p2 ?_ ?_; focus (first | omega | (simp <;> omega))) | refine p3 ?_ | refine p4 ?_ | apply p5 | (refine p6 ?_ ?_; focus (first | omega | (simp <;> omega))) | apply p7 | (refine p8 ?_ ?_; focus (first | omega | (simp <;> omega))) | (refine p9 (by assumption) ?_ ?_; focus (first | omega | (simp <;> omega))) | (refine p10 (by assumption) ?_ ?_; focus (first | omega | (simp <;> omega)))))
            have hp8 : p + 8 = plen n := by have := HPN.out; have := HN.out; have := plen_ge n; omega
            rw [hp8] at g5
            have HP8 := hid hp8
            have hsz5 := b5.size
            clear hp8 b5 s8 hSp hBw g1w g0w g3 hB3 hB g0 g1 c72 hR5
            obtain ⟨HF, hHF⟩ : ∃ HF, HF = stm (pad M n) (plen n / 64) := ⟨_, rfl⟩
            rw [← hHF] at g5
            have HHF := hid hHF
            clear hHF
            go_wp2_with (first | ((with_reducible refine Mid.arm_loadm row34 rfl ?_); refine ⟨rfl, _, _, words 8 HF, rfl, (mid_words (by (with_reducible repeat (first | assumption | (refine p1 ?_; (first | omega | (simp <;> omega))) | (refine p2 ?_ ?_; focus (first | omega | (simp <;> omega))) | refine p3 ?_ | refine p4 ?_ | apply p5 | (refine p6 ?_ ?_; focus (first | omega | (simp <;> omega))) | apply p7 | (refine p8 ?_ ?_; focus (first | omega | (simp <;> omega))) | (refine p9 (by assumption) ?_ ?_; focus (first | omega | (simp <;> omega))) | (refine p10 (by assumption) ?_ ?_; focus (first | omega | (simp <;> omega))))))), by (exact words_size _ _), ?_⟩))
            go_loopg [42] 8 (fun k i wr => ∃ t : Nat, t + k = 8 ∧ i = .int .i64 t ∧ wr.heap[w5.heap.size]? = some (.cells (brow 32 (uptoB (dig HF) (4 * t))) 26 (0, 0)) ∧ Below w5.heap.size w5 wr)
            case atStart => exact ⟨0, by omega, rfl, by rw [uptoB_zero]; (with_reducible repeat (first | assumption | (refine p1 ?_; (first | omega | (simp <;> omega))) | (refine p2 ?_ ?_; focus (first | omega | (simp <;> omega))) | refine p3 ?_ | refine p4 ?_ | apply p5 | (refine p6 ?_ ?_; focus (first | omega | (simp <;> omega))) | apply p7 | (refine p8 ?_ ?_; focus (first | omega | (simp <;> omega))) | (refine p9 (by assumption) ?_ ?_; focus (first | omega | (simp <;> omega))) | (refine p10 (by assumption) ?_ ?_; focus (first | omega | (simp <;> omega))))), by (with_reducible repeat (first | assumption | exact Below.refl _ _ | (refine b4 ?_ ?_; focus (first | omega | (simp <;> omega))) | refine b2 ?_ | refine Below.drew ?_ | (refine b5 ?_ ?_; focus (first | omega | (simp <;> omega))) | (refine b1 ?_ ?_; focus (first | omega | (simp <;> omega))) | (refine b3 (by assumption) ?_ ?_; focus (first | omega | (simp <;> omega))) | (refine b6 (by assumption) ?_ ?_; focus (first | omega | (simp <;> omega)))))⟩
            case round =>
              obtain ⟨t, ht, rfl, g6, hB6⟩ := hrel
              have HT := hid ht
              have ht8 : t ≤ 8 := by omega
              clear ht
              by_cases h8 : t < 8
              · have ix := index_words HF t h8
                unfold wd at ix
                have e0 : IntKind.i64.wrap (4 * (t : Int)) = 4 * (t : Int) := wrap64 _ (by omega) (by omega)
                have v0 : (0 : Int) ≤ 4 * (t : Int) := by omega
                have l0 : 4 * (t : Int) < 32 := by omega
                have n0 : (4 * (t : Int)).toNat = 4 * t := by omega
                have e1 : IntKind.i64.wrap (4 * (t : Int) + 1) = 4 * (t : Int) + 1 := wrap64 _ (by omega) (by omega)
                have v1 : (0 : Int) ≤ 4 * (t : Int) + 1 := by omega
                have l1 : 4 * (t : Int) + 1 < 32 := by omega
                have n1 : (4 * (t : Int) + 1).toNat = 4 * t + 1 := by omega
                have e2 : IntKind.i64.wrap (4 * (t : Int) + 2) = 4 * (t : Int) + 2 := wrap64 _ (by omega) (by omega)
                have v2 : (0 : Int) ≤ 4 * (t : Int) + 2 := by omega
                have l2 : 4 * (t : Int) + 2 < 32 := by omega
                have n2 : (4 * (t : Int) + 2).toNat = 4 * t + 2 := by omega
                have e3 : IntKind.i64.wrap (4 * (t : Int) + 3) = 4 * (t : Int) + 3 := wrap64 _ (by omega) (by omega)
                have v3 : (0 : Int) ≤ 4 * (t : Int) + 3 := by omega
                have l3 : 4 * (t : Int) + 3 < 32 := by omega
                have n3 : (4 * (t : Int) + 3).toNat = 4 * t + 3 := by omega
                go_wp2_with (first | ((with_reducible refine Arr.arm_store1 cell5 rfl ?_); refine ⟨rfl, _, _, _, _, _, rfl, rfl, by (with_reducible repeat (first | assumption | (refine p1 ?_; (first | omega | (simp <;> omega))) | (refine p2 ?_ ?_; focus (first | omega | (simp <;> omega))) | refine p3 ?_ | refine p4 ?_ | apply p5 | (refine p6 ?_ ?_; focus (first | omega | (simp <;> omega))) | apply p7 | (refine p8 ?_ ?_; focus (first | omega | (simp <;> omega))) | (refine p9 (by assumption) ?_ ?_; focus (first | omega | (simp <;> omega))) | (refine p10 (by assumption) ?_ ?_; focus (first | omega | (simp <;> omega))))), by ((repeat rw [Array.size_setIfInBounds]); rw [brow_size]; omega), rfl, ?_⟩; (try simp only [Act.put, Act.eval, List.setIfInBounds_toArray, List.set_cons_zero, List.set_cons_succ, Array.getD_eq_getD_getElem?, List.getElem?_toArray, List.getElem?_cons_zero, List.getElem?_cons_succ, Option.getD_some])))
                go_roundg (8 - (t + 1))
                case measure => have := HT.out; omega
                case rel =>
                  refine ⟨t + 1, by omega, by go_num, ?_, by (with_reducible repeat (first | assumption | exact Below.refl _ _ | (refine b4 ?_ ?_; focus (first | omega | (simp <;> omega))) | refine b2 ?_ | refine Below.drew ?_ | (refine b5 ?_ ?_; focus (first | omega | (simp <;> omega))) | (refine b1 ?_ ?_; focus (first | omega | (simp <;> omega))) | (refine b3 (by assumption) ?_ ?_; focus (first | omega | (simp <;> omega))) | (refine b6 (by assumption) ?_ ?_; focus (first | omega | (simp <;> omega)))))⟩
                  rw [← dig_row]
                  (with_reducible repeat (first | assumption | (refine p1 ?_; (first | omega | (simp <;> omega))) | (refine p2 ?_ ?_; focus (first | omega | (simp <;> omega))) | refine p3 ?_ | refine p4 ?_ | apply p5 | (refine p6 ?_ ?_; focus (first | omega | (simp <;> omega))) | apply p7 | (refine p8 ?_ ?_; focus (first | omega | (simp <;> omega))) | (refine p9 (by assumption) ?_ ?_; focus (first | omega | (simp <;> omega))) | (refine p10 (by assumption) ?_ ?_; focus (first | omega | (simp <;> omega)))))
              · have e : t = 8 := by omega
                subst e
                rw [uptoB_all] at g6
                have g0' : wr.heap[w.heap.size]? = some (.cells (brow 32 fun _ => 0#8) 26 (0, 0)) := by (with_reducible repeat (first | assumption | (refine p1 ?_; (first | omega | (simp <;> omega))) | (refine p2 ?_ ?_; focus (first | omega | (simp <;> omega))) | refine p3 ?_ | refine p4 ?_ | apply p5 | (refine p6 ?_ ?_; focus (first | omega | (simp <;> omega))) | apply p7 | (refine p8 ?_ ?_; focus (first | omega | (simp <;> omega))) | (refine p9 (by assumption) ?_ ?_; focus (first | omega | (simp <;> omega))) | (refine p10 (by assumption) ?_ ?_; focus (first | omega | (simp <;> omega)))))
                go_wp2_with (first | ((with_reducible refine Arr.arm_load row26 rfl ?_); refine ⟨rfl, _, _, _, _, rfl, by (with_reducible repeat (first | assumption | (refine p1 ?_; (first | omega | (simp <;> omega))) | (refine p2 ?_ ?_; focus (first | omega | (simp <;> omega))) | refine p3 ?_ | refine p4 ?_ | apply p5 | (refine p6 ?_ ?_; focus (first | omega | (simp <;> omega))) | apply p7 | (refine p8 ?_ ?_; focus (first | omega | (simp <;> omega))) | (refine p9 (by assumption) ?_ ?_; focus (first | omega | (simp <;> omega))) | (refine p10 (by assumption) ?_ ?_; focus (first | omega | (simp <;> omega))))), by (exact brow_size _ _), ?_⟩; skip) | ((with_reducible refine Arr.arm_store row26 rfl ?_); refine ⟨rfl, _, _, _, _, rfl, rfl, by (with_reducible repeat (first | assumption | (refine p1 ?_; (first | omega | (simp <;> omega))) | (refine p2 ?_ ?_; focus (first | omega | (simp <;> omega))) | refine p3 ?_ | refine p4 ?_ | apply p5 | (refine p6 ?_ ?_; focus (first | omega | (simp <;> omega))) | apply p7 | (refine p8 ?_ ?_; focus (first | omega | (simp <;> omega))) | (refine p9 (by assumption) ?_ ?_; focus (first | omega | (simp <;> omega))) | (refine p10 (by assumption) ?_ ?_; focus (first | omega | (simp <;> omega))))), by (exact brow_size _ _), by (exact brow_size _ _), by (exact brow_one _ _), ?_⟩))
                refine Arr.ret_row rfl row26 rfl ⟨_, _, _, _, rfl, by (with_reducible repeat (first | assumption | (refine p1 ?_; (first | omega | (simp <;> omega))) | (refine p2 ?_ ?_; focus (first | omega | (simp <;> omega))) | refine p3 ?_ | refine p4 ?_ | apply p5 | (refine p6 ?_ ?_; focus (first | omega | (simp <;> omega))) | apply p7 | (refine p8 ?_ ?_; focus (first | omega | (simp <;> omega))) | (refine p9 (by assumption) ?_ ?_; focus (first | omega | (simp <;> omega))) | (refine p10 (by assumption) ?_ ?_; focus (first | omega | (simp <;> omega))))), by (exact brow_size _ _), ?_⟩
                exact ⟨by rw [HHF.out]; rfl, by (with_reducible repeat (first | assumption | exact Below.refl _ _ | (refine b4 ?_ ?_; focus (first | omega | (simp <;> omega))) | refine b2 ?_ | refine Below.drew ?_ | (refine b5 ?_ ?_; focus (first | omega | (simp <;> omega))) | (refine b1 ?_ ?_; focus (first | omega | (simp <;> omega))) | (refine b3 (by assumption) ?_ ?_; focus (first | omega | (simp <;> omega))) | (refine b6 (by assumption) ?_ ?_; focus (first | omega | (simp <;> omega)))))⟩
end Go.Proofs.YtfkeaglbfembnaaDoor.Sha7
