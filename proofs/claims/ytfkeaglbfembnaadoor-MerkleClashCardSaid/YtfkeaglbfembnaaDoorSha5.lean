/- SHA-256: a hash that is written to: what it holds is the function of all bytes so far. -/
import Derived.WalkKit
import Derived.StillTactics
import Derived.Outline
import Derived.Test.YtfkeaglbfembnaaDoorSha4
namespace Go.Proofs.YtfkeaglbfembnaaDoor.Sha5
open Go Go.RowKit Go.Proofs.YtfkeaglbfembnaaDoor.Arr Go.Proofs.YtfkeaglbfembnaaDoor.Mid Go.Proofs.YtfkeaglbfembnaaDoor.Sha1 Go.Proofs.YtfkeaglbfembnaaDoor.Sha2 Go.Proofs.YtfkeaglbfembnaaDoor.Sha4
set_option maxRecDepth 100000
set_option linter.unusedVariables false
set_option linter.unusedSimpArgs false
def h0List : List Nat := [1779033703, 3144134277, 1013904242, 2773480762, 1359893119, 2600822924, 528734635, 1541459225]
def k0List : List Nat := [1116352408, 1899447441, 3049323471, 3921009573, 961987163, 1508970993, 2453635748, 2870763221, 3624381080, 310598401, 607225278, 1426881987, 1925078388, 2162078206, 2614888103, 3248222580, 3835390401, 4022224774, 264347078, 604807628, 770255983, 1249150122, 1555081692, 1996064986, 2554220882, 2821834349, 2952996808, 3210313671, 3336571891, 3584528711, 113926993, 338241895, 666307205, 773529912, 1294757372, 1396182291, 1695183700, 1986661051, 2177026350, 2456956037, 2730485921, 2820302411, 3259730800, 3345764771, 3516065817, 3600352804, 4094571909, 275423344, 430227734, 506948616, 659060556, 883997877, 958139571, 1322822218, 1537002063, 1747873779, 1955562222, 2024104815, 2227730452, 2361852424, 2428436474, 2756734187, 3204031479, 3329325298]
def H0 (i : Nat) : W32 := BitVec.ofNat 32 (h0List.getD i 0)
def K0 (i : Nat) : W32 := BitVec.ofNat 32 (k0List.getD i 0)
attribute [irreducible] H0 K0
/-- The words behind k blocks of the bytes M. -/
def stm (M : Nat → B8) : Nat → Nat → W32
  | 0 => H0
  | k + 1 => blockf K0 (stm M k) fun i => M (64 * k + i)
theorem sched_congr (B C : Nat → B8) (h : ∀ i, i < 64 → B i = C i) : ∀ t, t < 64 → sched B t = sched C t := by
  intro t
  induction t using Nat.strongRecOn with
  | _ t ih =>
    intro ht
    by_cases h16 : t < 16
    · rw [sched_lt B t h16, sched_lt C t h16, h _ (by omega), h _ (by omega), h _ (by omega), h _ (by omega)]
    · obtain ⟨s, rfl⟩ : ∃ s, t = s + 16 := ⟨t - 16, by omega⟩
      rw [sched_ge, sched_ge, ih _ (by omega) (by omega), ih _ (by omega) (by omega), ih (s + 1) (by omega) (by omega), ih s (by omega) (by omega)]
theorem rounds_congr (K W W' H : Nat → W32) : ∀ t, t ≤ 64 → (∀ i, i < 64 → W i = W' i) → rounds K W H t = rounds K W' H t
  | 0, _, _ => rfl
  | t + 1, ht, h => by unfold rounds; rw [rounds_congr K W W' H t (by omega) h, h t (by omega)]
theorem blockf_congr (K H : Nat → W32) (B C : Nat → B8) (h : ∀ i, i < 64 → B i = C i) : blockf K H B = blockf K H C := by
  funext i; unfold blockf; rw [rounds_congr K _ _ H 64 (Nat.le_refl _) (sched_congr B C h)]
theorem stm_congr (M N : Nat → B8) : ∀ k, (∀ i, i < 64 * k → M i = N i) → stm M k = stm N k
  | 0, _ => rfl
  | k + 1, h => by
    unfold stm
    rw [stm_congr M N k (fun i hi => h i (by omega))]
    exact blockf_congr _ _ _ _ fun i hi => h _ (by omega)
/-- The program's two tables are what they are. -/
def Glob (w : World) : Prop := (∀ i, i < 8 → w.cell? ⟨0, i, none⟩ = some (wd (H0 i))) ∧ (∀ i, i < 64 → w.cell? ⟨1, i, none⟩ = some (wd (K0 i)))
theorem glob_lt {w : World} (h : Glob w) : 1 < w.heap.size := by
  have h1 := h.2 0 (by omega)
  by_cases hc : 1 < w.heap.size
  · exact hc
  · unfold World.cell? at h1; rw [Array.getElem?_eq_none (by simpa using hc)] at h1; cases h1
theorem glob_below {w w' : World} {B : Nat} (h : Glob w) (hb : Below B w w') (hB : 1 < B) : Glob w' :=
  ⟨fun i hi => (cell_below hb 0 i (by omega)).trans (h.1 i hi), fun i hi => (cell_below hb 1 i hB).trans (h.2 i hi)⟩
theorem cell_but {w w' : World} {g : Nat} (hb : w.grownBy w' (some g)) (b o : Nat) (h : b < w.heap.size) (hn : b ≠ g) : w'.cell? ⟨b, o, none⟩ = w.cell? ⟨b, o, none⟩ := by
  unfold World.cell?; rw [hb.block b h (fun e => hn (Option.some.inj e))]
theorem glob_but {w w' : World} {g : Nat} (h : Glob w) (hb : w.grownBy w' (some g)) (hg : 1 < g) : Glob w' :=
  ⟨fun i hi => (cell_but hb 0 i (by have := glob_lt h; omega) (by omega)).trans (h.1 i hi), fun i hi => (cell_but hb 1 i (glob_lt h) (by omega)).trans (h.2 i hi)⟩
theorem glob_same {w w' : World} (h : Glob w) (hw : w'.heap = w.heap) : Glob w' := by
  unfold Glob World.cell? at *; rw [hw]; exact h
/-- Block g is the hash of the first n bytes of M. -/
def Hs (w : World) (g : Nat) (M : Nat → B8) (n : Nat) : Prop := ∃ R : Nat → B8, (∀ i, i < n % 64 → R i = M (64 * (n / 64) + i)) ∧ w.heap[g]? = some (.cells (hc (stm M (n / 64)) R n true) 38 (0, 0))
/-- .. or one that isn't begun. -/
def Fresh (w : World) (g : Nat) : Prop := w.heap[g]? = some (.cells (hc (fun _ => 0#32) (fun _ => 0#8) 0 false) 38 (0, 0))
def Hst (w : World) (g : Nat) (M : Nat → B8) (n : Nat) : Prop := Hs w g M n ∨ (n = 0 ∧ Fresh w g)
theorem hs_congr {w : World} {g : Nat} {M N : Nat → B8} {n : Nat} (h : Hs w g M n) (e : ∀ i, i < n → M i = N i) : Hs w g N n := by
  obtain ⟨R, h1, h2⟩ := h
  refine ⟨R, fun i hi => ?_, ?_⟩
  · rw [h1 i hi]; exact e _ (by omega)
  · rw [← stm_congr M N (n / 64) (fun i hi => e i (by omega))]; exact h2
theorem hst_congr {w : World} {g : Nat} {M N : Nat → B8} {n : Nat} (h : Hst w g M n) (e : ∀ i, i < n → M i = N i) : Hst w g N n :=
  h.elim (fun h => .inl (hs_congr h e)) .inr
/-- A slice reads as the first m bytes of f, and none of them lies in block g. -/
def Src (w : World) (g : Nat) (A : Option Addr) (m : Nat) (f : Nat → B8) : Prop := 0 < m → ∃ b o, A = some ⟨b, o, none⟩ ∧ b ≠ g ∧ b < w.heap.size ∧ ∀ i, i < m → w.cell? ⟨b, o + i, none⟩ = some (by8 (f i))
theorem blit_hc (H : Nat → W32) (R S : Nat → B8) (n : Nat) (bg : Bool) (a k : Nat) (h : a + k ≤ 64) :
    blit (hc H R n bg) (8 + a) ((List.range k).map fun i => by8 (S i)) = hc H (fun i => if a ≤ i ∧ i < a + k then S (i - a) else R i) n bg := by
  have hl : ((List.range k).map fun i => by8 (S i)).length = k := by simp
  have hsz : 8 + a + ((List.range k).map fun i => by8 (S i)).length ≤ (hc H R n bg).size := by rw [hl, hc_size]; omega
  apply Array.ext_getElem?
  intro i
  rw [blit_get _ _ _ hsz, hl]
  by_cases h1 : 8 + a ≤ i ∧ i < 8 + a + k
  · rw [if_pos h1]
    obtain ⟨j, rfl⟩ : ∃ j, i = 8 + j := ⟨i - 8, by omega⟩
    rw [hc_rest _ _ _ _ j (by omega), if_pos (by omega)]
    simp [List.getElem?_range, show 8 + j - (8 + a) < k by omega]
    rw [show 8 + j - (8 + a) = j - a by omega]
  · rw [if_neg h1]
    by_cases h2 : i < 8
    · rw [hc_word _ _ _ _ i h2, hc_word _ _ _ _ i h2]
    · by_cases h3 : i < 72
      · obtain ⟨j, rfl⟩ : ∃ j, i = 8 + j := ⟨i - 8, by omega⟩
        rw [hc_rest _ _ _ _ j (by omega), hc_rest _ _ _ _ j (by omega), if_neg (by omega)]
      · by_cases h4 : i = 72
        · subst h4; rw [hc_n, hc_n]
        · by_cases h5 : i = 73
          · subst h5; rw [hc_begun, hc_begun]
          · rw [Array.getElem?_eq_none (by rw [hc_size]; omega), Array.getElem?_eq_none (by rw [hc_size]; omega)]
theorem blit_words (H H' : Nat → W32) (R : Nat → B8) (n : Nat) (bg : Bool) : blit (hc H R n bg) 0 (words 8 H').toList = hc H' R n bg := by
  have hl : (words 8 H').toList.length = 8 := by rw [Array.length_toList, words_size]
  have hsz : 0 + (words 8 H').toList.length ≤ (hc H R n bg).size := by rw [hl, hc_size]; omega
  apply Array.ext_getElem?
  intro i
  rw [blit_get _ _ _ hsz, hl]
  by_cases h2 : i < 8
  · rw [if_pos (by omega), Array.getElem?_toList, Nat.sub_zero, words_get _ _ _ h2, hc_word _ _ _ _ i h2]
  · rw [if_neg (by omega)]
    by_cases h3 : i < 72
    · obtain ⟨j, rfl⟩ : ∃ j, i = 8 + j := ⟨i - 8, by omega⟩
      rw [hc_rest _ _ _ _ j (by omega), hc_rest _ _ _ _ j (by omega)]
    · by_cases h4 : i = 72
      · subst h4; rw [hc_n, hc_n]
      · by_cases h5 : i = 73
        · subst h5; rw [hc_begun, hc_begun]
        · rw [Array.getElem?_eq_none (by rw [hc_size]; omega), Array.getElem?_eq_none (by rw [hc_size]; omega)]
theorem hc_setBegun (H R n bg) (b' : Bool) : (hc H R n bg).setIfInBounds 73 (.bool b') = hc H R n b' := by
  apply Array.ext_getElem?
  intro i
  rw [Array.getElem?_setIfInBounds, hc_size]
  by_cases h5 : i = 73
  · subst h5; rw [hc_begun, if_pos rfl, if_pos (by omega), hc_begun]
  · rw [if_neg (by omega)]
    by_cases h2 : i < 8
    · rw [hc_word _ _ _ _ i h2, hc_word _ _ _ _ i h2]
    · by_cases h3 : i < 72
      · obtain ⟨j, rfl⟩ : ∃ j, i = 8 + j := ⟨i - 8, by omega⟩
        rw [hc_rest _ _ _ _ j (by omega), hc_rest _ _ _ _ j (by omega)]
      · by_cases h4 : i = 72
        · subst h4; rw [hc_n, hc_n]
        · rw [Array.getElem?_eq_none (by rw [hc_size]; omega), Array.getElem?_eq_none (by rw [hc_size]; omega)]
end Go.Proofs.YtfkeaglbfembnaaDoor.Sha5
