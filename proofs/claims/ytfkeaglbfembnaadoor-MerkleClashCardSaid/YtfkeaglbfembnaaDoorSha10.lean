/- SHA-256 as the reference reckons it: of one list of bytes. -/
import Derived.WalkKit
import Derived.StillTactics
import Derived.Outline
import Derived.Test.YtfkeaglbfembnaaDoorSha3
import Derived.Test.YtfkeaglbfembnaaDoorSha9
namespace Go.Proofs.YtfkeaglbfembnaaDoor.Sha10
open Go Go.RowKit Go.Proofs.YtfkeaglbfembnaaDoor.Arr Go.Proofs.YtfkeaglbfembnaaDoor.Mid Go.Proofs.YtfkeaglbfembnaaDoor.App Go.Proofs.YtfkeaglbfembnaaDoor.Sha1 Go.Proofs.YtfkeaglbfembnaaDoor.Sha2 Go.Proofs.YtfkeaglbfembnaaDoor.Sha3 Go.Proofs.YtfkeaglbfembnaaDoor.Sha4 Go.Proofs.YtfkeaglbfembnaaDoor.Sha5 Go.Proofs.YtfkeaglbfembnaaDoor.Sha6 Go.Proofs.YtfkeaglbfembnaaDoor.Sha7 Go.Proofs.YtfkeaglbfembnaaDoor.Sha8 Go.Proofs.YtfkeaglbfembnaaDoor.Sha9
set_option maxRecDepth 100000
set_option linter.unusedVariables false
set_option linter.unusedSimpArgs false
theorem lit_H0 : (#[.int .u32 1779033703, .int .u32 3144134277, .int .u32 1013904242, .int .u32 2773480762, .int .u32 1359893119, .int .u32 2600822924, .int .u32 528734635, .int .u32 1541459225] : Array Value) = words 8 H0 := by kernel_rfl
theorem lit_K0 : (List.map (fun k : Nat => Value.int .u32 (k : Int)) k0List).toArray = words 64 K0 := by kernel_rfl
theorem c_words (w : World) : Calls Tryd.prog 41 #[] w fun e w' => e = .returned (.tuple #[.agg (words 8 H0), .agg (words 64 K0)]) ∧ Below w.heap.size w w' := by
  have z34 := zero_words8
  have z41 := zero_words64
  go_enter Tryd.func41, Tryd.ntmps41
  go_wp2_with (first | ((with_reducible refine arm_build 34 (.agg (words 8 H0)) rfl rfl ?_ ?_); (focus kernel_rfl)) | ((with_reducible refine arm_build 41 (.agg (words 64 K0)) rfl rfl ?_ ?_); (focus kernel_rfl)) | ((with_reducible refine Arr.arm_store row34 rfl ?_); refine ⟨rfl, _, _, _, _, rfl, rfl, by (with_reducible repeat (first | assumption | (refine p1 ?_; (first | omega | (simp <;> omega))) | (refine p2 ?_ ?_; focus (first | omega | (simp <;> omega))) | refine p3 ?_ | refine p4 ?_ | apply p5 | (refine p6 ?_ ?_; focus (first | omega | (simp <;> omega))) | apply p7 | (refine p8 ?_ ?_; focus (first | omega | (simp <;> omega))) | (refine p9 (by assumption) ?_ ?_; focus (first | omega | (simp <;> omega))) | (refine p10 (by assumption) ?_ ?_; focus (first | omega | (simp <;> omega))))), by (first | (with_reducible exact words_size _ _) | kernel_rfl), by (first | (with_reducible exact words_size _ _) | kernel_rfl), by (first | (with_reducible exact words_one _ _) | kernel_rfl), ?_⟩) | ((with_reducible refine Arr.arm_store row41 rfl ?_); refine ⟨rfl, _, _, _, _, rfl, rfl, by (with_reducible repeat (first | assumption | (refine p1 ?_; (first | omega | (simp <;> omega))) | (refine p2 ?_ ?_; focus (first | omega | (simp <;> omega))) | refine p3 ?_ | refine p4 ?_ | apply p5 | (refine p6 ?_ ?_; focus (first | omega | (simp <;> omega))) | apply p7 | (refine p8 ?_ ?_; focus (first | omega | (simp <;> omega))) | (refine p9 (by assumption) ?_ ?_; focus (first | omega | (simp <;> omega))) | (refine p10 (by assumption) ?_ ?_; focus (first | omega | (simp <;> omega))))), by (first | (with_reducible exact words_size _ _) | kernel_rfl), by (first | (with_reducible exact words_size _ _) | kernel_rfl), by (first | (with_reducible exact words_one _ _) | kernel_rfl), ?_⟩))
  (try simp only [Act.put, Act.eval, List.setIfInBounds_toArray, List.set_cons_zero, List.set_cons_succ, Array.getD_eq_getD_getElem?, List.getElem?_toArray, List.getElem?_cons_zero, List.getElem?_cons_succ, Option.getD_some])
  refine Arr.ret_row_row rfl row34 row41 rfl ⟨_, _, _, _, _, _, _, _, rfl, rfl, by (with_reducible repeat (first | assumption | (refine p1 ?_; (first | omega | (simp <;> omega))) | (refine p2 ?_ ?_; focus (first | omega | (simp <;> omega))) | refine p3 ?_ | refine p4 ?_ | apply p5 | (refine p6 ?_ ?_; focus (first | omega | (simp <;> omega))) | apply p7 | (refine p8 ?_ ?_; focus (first | omega | (simp <;> omega))) | (refine p9 (by assumption) ?_ ?_; focus (first | omega | (simp <;> omega))) | (refine p10 (by assumption) ?_ ?_; focus (first | omega | (simp <;> omega))))), by (with_reducible repeat (first | assumption | (refine p1 ?_; (first | omega | (simp <;> omega))) | (refine p2 ?_ ?_; focus (first | omega | (simp <;> omega))) | refine p3 ?_ | refine p4 ?_ | apply p5 | (refine p6 ?_ ?_; focus (first | omega | (simp <;> omega))) | apply p7 | (refine p8 ?_ ?_; focus (first | omega | (simp <;> omega))) | (refine p9 (by assumption) ?_ ?_; focus (first | omega | (simp <;> omega))) | (refine p10 (by assumption) ?_ ?_; focus (first | omega | (simp <;> omega))))), by (exact words_size _ _), by (exact words_size _ _), ?_⟩
  exact ⟨rfl, by (with_reducible repeat (first | assumption | exact Below.refl _ _ | (refine b4 ?_ ?_; focus (first | omega | (simp <;> omega))) | refine b2 ?_ | refine Below.drew ?_ | (refine b5 ?_ ?_; focus (first | omega | (simp <;> omega))) | (refine b1 ?_ ?_; focus (first | omega | (simp <;> omega))) | (refine b3 (by assumption) ?_ ?_; focus (first | omega | (simp <;> omega))) | (refine b6 (by assumption) ?_ ?_; focus (first | omega | (simp <;> omega)))))⟩
/-- The first p bytes behind the padding. -/
def padP (l : Bytes8) (p : Nat) : Bytes8 := (List.range p).map (pad (lf l) l.length)
theorem padP_len (l : Bytes8) (p : Nat) : (padP l p).length = p := by simp [padP]
theorem padP_succ (l : Bytes8) (p : Nat) : padP l (p + 1) = padP l p ++ [pad (lf l) l.length p] := by unfold padP; rw [List.range_succ, List.map_append]; rfl
theorem padP_at (l : Bytes8) (p i : Nat) (h : i < p) : lf (padP l p) i = pad (lf l) l.length i := by
  unfold lf padP; rw [List.getD_eq_getElem?_getD, List.getElem?_map, List.getElem?_range h]; rfl
theorem padP_all (l : Bytes8) : padP l l.length = l := by
  apply List.ext_getElem?
  intro i
  unfold padP
  by_cases h : i < l.length
  · rw [List.getElem?_map, List.getElem?_range h, List.getElem?_eq_getElem h]
    show some (pad (lf l) l.length i) = _
    unfold pad lf; rw [if_pos h, List.getD_eq_getElem?_getD, List.getElem?_eq_getElem h]; rfl
  · rw [List.getElem?_eq_none (by simp; omega), List.getElem?_eq_none (by omega)]
theorem slice29lh (b o l c x y : Nat) (h1 : x ≤ y) (h2 : y ≤ c) (h3 : x < c) (w : World) : (Instr.slice 29 (.slice (some ⟨b, o, none⟩) l c) (some (.int .i64 (x : Int))) (some (.int .i64 (y : Int))) none).run Tryd.prog w = .ok (.slice (some ⟨b, o + x, none⟩) (y - x) (c - x)) w := by
  have he : Tryd.prog.elem 29 = 5 := by kernel_rfl
  have hu : Tryd.prog.underlying 29 = some (.slice (Tryd.prog.elem 29)) := by rw [he]; exact Tryd.underlying29
  have hs : (sizeOf 5).run Tryd.prog w = .ok 1 w := by
    cases hq : Tryd.prog.info? 5 with
    | none => have := size5; simp [hq] at this
    | some i => have := size5; simp [hq] at this; simp [sizeOf, typeInfo, hq, this]
  rw [run_slice_lh w 29 (some ⟨b, o, none⟩) l c hu .i64 .i64 (x : Int) (y : Int) (by omega) (by omega) (by omega), he, hs]
  simp only [Result.andThen_ok, sliced, Int.toNat_natCast, Nat.mul_one, Option.map_some, Addr.add_mid]
  rw [if_neg (by omega)]
theorem slice29blk (g L c x : Nat) (h1 : x + 64 ≤ L) (h2 : L ≤ c) (w : World) : (Instr.slice 29 (.slice (some ⟨g, 0, none⟩) L c) (some (.int .i64 (x : Int))) (some (.int .i64 ((x : Int) + 64))) none).run Tryd.prog w = .ok (.slice (some ⟨g, x, none⟩) 64 (c - x)) w := by
  have e := slice29lh g 0 L c x (x + 64) (by omega) (by omega) (by omega) w
  rw [show x + 64 - x = 64 by omega, Nat.zero_add, Int.natCast_add] at e
  exact e
theorem dig_at (H : Nat → W32) (t a b : Nat) (ha : a = t / 4) (hb : b = t % 4) : Value.int .u8 (((H a).toNat : Int) / 2 ^ (24 - 8 * b) % 256) = by8 (dig H t) := by
  subst ha; subst hb
  unfold by8 dig
  rw [BitVec.toNat_ofNat, show 2 ^ 8 = 256 from rfl, Int.natCast_emod, Int.natCast_ediv, Int.natCast_pow]; rfl
set_option maxHeartbeats 8000000 in
theorem c_refSum (A : Option Addr) (l : Bytes8) (cap B : Nat) (w : World) (hB : B ≤ w.heap.size) (h : BSl w B A l) (hl : l.length < 10000000000000) :
    Calls Tryd.prog 17 #[.slice A l.length cap] w fun e w' => e = .returned (.agg (brow 32 (shaL l))) ∧ Below w.heap.size w w' := by
  have z26 := zero26
  have z34 := zero_words8
  have z41 := zero_words64
  go_enter Tryd.func17, Tryd.ntmps17
  go_wp2_with (first | (go_at_call 41; (with_reducible refine (c_words _).mono ?_); rintro e w1 ⟨rfl, hb1⟩; have hz1 := hb1.size; (try simp only [World.size_alloc] at hz1); have q0 : w1.heap[w.heap.size]? = some (.cells (brow 32 fun _ => 0#8) 26 (0, 0)) := by (with_reducible repeat (first | assumption | (refine p1 ?_; (first | omega | (simp <;> omega))) | (refine p2 ?_ ?_; focus (first | omega | (simp <;> omega))) | refine p3 ?_ | refine p4 ?_ | apply p5 | (refine p6 ?_ ?_; focus (first | omega | (simp <;> omega))) | apply p7 | (refine p8 ?_ ?_; focus (first | omega | (simp <;> omega))) | (refine p9 (by assumption) ?_ ?_; focus (first | omega | (simp <;> omega))) | (refine p10 (by assumption) ?_ ?_; focus (first | omega | (simp <;> omega)))))) | ((with_reducible refine Arr.arm_store row34 rfl ?_); refine ⟨rfl, _, _, _, _, rfl, rfl, by (with_reducible repeat (first | assumption | (refine p1 ?_; (first | omega | (simp <;> omega))) | (refine p2 ?_ ?_; focus (first | omega | (simp <;> omega))) | refine p3 ?_ | refine p4 ?_ | apply p5 | (refine p6 ?_ ?_; focus (first | omega | (simp <;> omega))) | apply p7 | (refine p8 ?_ ?_; focus (first | omega | (simp <;> omega))) | (refine p9 (by assumption) ?_ ?_; focus (first | omega | (simp <;> omega))) | (refine p10 (by assumption) ?_ ?_; focus (first | omega | (simp <;> omega))))), by (exact words_size _ _), by (exact words_size _ _), by (exact words_one _ _), ?_⟩) | ((with_reducible refine Arr.arm_store row41 rfl ?_); refine ⟨rfl, _, _, _, _, rfl, rfl, by (with_reducible repeat (first | assumption | (refine p1 ?_; (first | omega | (simp <;> omega))) | (refine p2 ?_ ?_; focus (first | omega | (simp <;> omega))) | refine p3 ?_ | refine p4 ?_ | apply p5 | (refine p6 ?_ ?_; focus (first | omega | (simp <;> omega))) | apply p7 | (refine p8 ?_ ?_; focus (first | omega | (simp <;> omega))) | (refine p9 (by assumption) ?_ ?_; focus (first | omega | (simp <;> omega))) | (refine p10 (by assumption) ?_ ?_; focus (first | omega | (simp <;> omega))))), by (exact words_size _ _), by (exact words_size _ _), by (exact words_one _ _), ?_⟩) | ((at_builtin; refine arm_appB elem5 rfl (base := w1.heap.size + 2) (Own.nil _ _) (h.below (C := w.heap.size) (by (with_reducible repeat (first | assumption | exact Below.refl _ _ | (refine b4 ?_ ?_; focus (first | omega | (simp <;> omega))) | refine b2 ?_ | refine Below.drew ?_ | (refine b5 ?_ ?_; focus (first | omega | (simp <;> omega))) | (refine b1 ?_ ?_; focus (first | omega | (simp <;> omega))) | (refine b3 (by assumption) ?_ ?_; focus (first | omega | (simp <;> omega))) | (refine b6 (by assumption) ?_ ?_; focus (first | omega | (simp <;> omega)))))) hB) (by simp; omega) (by simp) ?_); refine ⟨rfl, rfl, _, rfl, ?_⟩; intro v2 w2 hO2 hb2; have q1 : w2.heap[w.heap.size]? = some (.cells (brow 32 fun _ => 0#8) 26 (0, 0)) := by (with_reducible repeat (first | assumption | (refine p1 ?_; (first | omega | (simp <;> omega))) | (refine p2 ?_ ?_; focus (first | omega | (simp <;> omega))) | refine p3 ?_ | refine p4 ?_ | apply p5 | (refine p6 ?_ ?_; focus (first | omega | (simp <;> omega))) | apply p7 | (refine p8 ?_ ?_; focus (first | omega | (simp <;> omega))) | (refine p9 (by assumption) ?_ ?_; focus (first | omega | (simp <;> omega))) | (refine p10 (by assumption) ?_ ?_; focus (first | omega | (simp <;> omega)))))) | ((at_builtin; refine arm_appB elem5 rfl (base := w1.heap.size + 2) (m := [128#8]) (Own.alloc hO2 _) (bsl_one (v := 128#8) (heap_alloc_new _ _) rfl) (by simp; omega) (by simp; have := hb2.size; simp at this; omega) ?_); refine ⟨rfl, rfl, _, rfl, ?_⟩; intro v3 w3 hO3 hb3))
  have hz2 := hb2.size
  have hz3 := hb3.size
  simp only [World.size_alloc, setRow_size] at hz2 hz3
  have q3 : w3.heap[w.heap.size]? = some (.cells (brow 32 fun _ => 0#8) 26 (0, 0)) := by (with_reducible repeat (first | assumption | (refine p1 ?_; (first | omega | (simp <;> omega))) | (refine p2 ?_ ?_; focus (first | omega | (simp <;> omega))) | refine p3 ?_ | refine p4 ?_ | apply p5 | (refine p6 ?_ ?_; focus (first | omega | (simp <;> omega))) | apply p7 | (refine p8 ?_ ?_; focus (first | omega | (simp <;> omega))) | (refine p9 (by assumption) ?_ ?_; focus (first | omega | (simp <;> omega))) | (refine p10 (by assumption) ?_ ?_; focus (first | omega | (simp <;> omega)))))
  have r1 : w3.heap[w1.heap.size]? = some (.cells (words 8 H0) 34 (0, 0)) := by (with_reducible repeat (first | assumption | (refine p1 ?_; (first | omega | (simp <;> omega))) | (refine p2 ?_ ?_; focus (first | omega | (simp <;> omega))) | refine p3 ?_ | refine p4 ?_ | apply p5 | (refine p6 ?_ ?_; focus (first | omega | (simp <;> omega))) | apply p7 | (refine p8 ?_ ?_; focus (first | omega | (simp <;> omega))) | (refine p9 (by assumption) ?_ ?_; focus (first | omega | (simp <;> omega))) | (refine p10 (by assumption) ?_ ?_; focus (first | omega | (simp <;> omega)))))
  have r2 : w3.heap[w1.heap.size + 1]? = some (.cells (words 64 K0) 41 (0, 0)) := by (with_reducible repeat (first | assumption | (refine p1 ?_; (first | omega | (simp <;> omega))) | (refine p2 ?_ ?_; focus (first | omega | (simp <;> omega))) | refine p3 ?_ | refine p4 ?_ | apply p5 | (refine p6 ?_ ?_; focus (first | omega | (simp <;> omega))) | apply p7 | (refine p8 ?_ ?_; focus (first | omega | (simp <;> omega))) | (refine p9 (by assumption) ?_ ?_; focus (first | omega | (simp <;> omega))) | (refine p10 (by assumption) ?_ ?_; focus (first | omega | (simp <;> omega)))))
  have hBW : Below w.heap.size w w3 := by (with_reducible repeat (first | assumption | exact Below.refl _ _ | (refine b4 ?_ ?_; focus (first | omega | (simp <;> omega))) | refine b2 ?_ | refine Below.drew ?_ | (refine b5 ?_ ?_; focus (first | omega | (simp <;> omega))) | (refine b1 ?_ ?_; focus (first | omega | (simp <;> omega))) | (refine b3 (by assumption) ?_ ?_; focus (first | omega | (simp <;> omega))) | (refine b6 (by assumption) ?_ ?_; focus (first | omega | (simp <;> omega)))))
  have hO : Own w3 (w1.heap.size + 2) v3 (padP l (l.length + 1)) := by
    rw [padP_succ, padP_all, pad_at]; exact hO3
  have hw1 : w.heap.size < w1.heap.size := by omega
  have hw3 : w1.heap.size + 1 < w3.heap.size := by omega
  clear hb1 hb2 hb3 hO2 hO3 q0 q1 hz1 hz2 hz3 z34 z41
  obtain ⟨n, hn⟩ : ∃ n, n = l.length := ⟨_, rfl⟩
  rw [← hn] at hO hl ⊢
  have HNL := hid hn
  obtain ⟨N, hN⟩ : ∃ N, N = plen n - 8 := ⟨_, rfl⟩
  have hN1 : n + 1 ≤ N := by have := plen_ge n; omega
  have hN2 : N ≤ n + 64 := by have := plen_ge n; omega
  have hN3 : Hid (N % 64 = 56) := by show N % 64 = 56; have := plen_ge n; omega
  have HN := hid hN
  clear hN hn
  obtain ⟨s1, hs1⟩ : ∃ s1, s1 = w1.heap.size := ⟨_, rfl⟩
  rw [← hs1] at hO r1 r2 hw1 hw3 ⊢
  clear hs1 w1
  go_loopg [5] (N - (n + 1)) (fun k v wr => ∃ p, n + 1 ≤ p ∧ p + k = N ∧ Own wr (s1 + 2) v (padP l p) ∧ wr.heap[w.heap.size]? = some (.cells (brow 32 fun _ => 0#8) 26 (0, 0)) ∧ wr.heap[s1]? = some (.cells (words 8 H0) 34 (0, 0)) ∧ wr.heap[s1 + 1]? = some (.cells (words 64 K0) 41 (0, 0)) ∧ Below w.heap.size w wr)
  case atStart => exact ⟨n + 1, by omega, by omega, hO, q3, r1, r2, hBW⟩
  case round =>
    clear hO q3 r1 r2 hBW
    obtain ⟨p, hp1, hp2, hO, q3, r1, r2, hBW⟩ := hrel
    have HP2 := hid hp2
    have hp3 : p ≤ N := by omega
    have hw3 := lt_of r2
    clear hp2
    obtain ⟨A2, c2, rfl, hc2, hsr, hA2⟩ := hO.form
    rw [padP_len] at hO hc2 ⊢
    by_cases hpN : p < N
    · have t1 : ((p : Int) % 64 == 56) = false := by rw [beq_eq_false_iff_ne]; have := hN3.out; omega
      go_wp2_with ((at_builtin; refine arm_appB elem5 rfl (base := s1 + 2) (m := [0#8]) (Own.alloc hO _) (bsl_one (v := 0#8) (heap_alloc_new _ _) rfl) (by rw [padP_len]; simp; omega) (by simp; omega) ?_); refine ⟨rfl, rfl, _, rfl, ?_⟩; intro v2 w2 hO2 hb2)
      have hz2 := hb2.size
      simp only [World.size_alloc] at hz2
      have q32 : w2.heap[w.heap.size]? = some (.cells (brow 32 fun _ => 0#8) 26 (0, 0)) := by (with_reducible repeat (first | assumption | (refine p1 ?_; (first | omega | (simp <;> omega))) | (refine p2 ?_ ?_; focus (first | omega | (simp <;> omega))) | refine p3 ?_ | refine p4 ?_ | apply p5 | (refine p6 ?_ ?_; focus (first | omega | (simp <;> omega))) | apply p7 | (refine p8 ?_ ?_; focus (first | omega | (simp <;> omega))) | (refine p9 (by assumption) ?_ ?_; focus (first | omega | (simp <;> omega))) | (refine p10 (by assumption) ?_ ?_; focus (first | omega | (simp <;> omega)))))
      have r12 : w2.heap[s1]? = some (.cells (words 8 H0) 34 (0, 0)) := by (with_reducible repeat (first | assumption | (refine p1 ?_; (first | omega | (simp <;> omega))) | (refine p2 ?_ ?_; focus (first | omega | (simp <;> omega))) | refine p3 ?_ | refine p4 ?_ | apply p5 | (refine p6 ?_ ?_; focus (first | omega | (simp <;> omega))) | apply p7 | (refine p8 ?_ ?_; focus (first | omega | (simp <;> omega))) | (refine p9 (by assumption) ?_ ?_; focus (first | omega | (simp <;> omega))) | (refine p10 (by assumption) ?_ ?_; focus (first | omega | (simp <;> omega)))))
      have r22 : w2.heap[s1 + 1]? = some (.cells (words 64 K0) 41 (0, 0)) := by (with_reducible repeat (first | assumption | (refine p1 ?_; (first | omega | (simp <;> omega))) | (refine p2 ?_ ?_; focus (first | omega | (simp <;> omega))) | refine p3 ?_ | refine p4 ?_ | apply p5 | (refine p6 ?_ ?_; focus (first | omega | (simp <;> omega))) | apply p7 | (refine p8 ?_ ?_; focus (first | omega | (simp <;> omega))) | (refine p9 (by assumption) ?_ ?_; focus (first | omega | (simp <;> omega))) | (refine p10 (by assumption) ?_ ?_; focus (first | omega | (simp <;> omega)))))
      have hB2 : Below w.heap.size w w2 := by (with_reducible repeat (first | assumption | exact Below.refl _ _ | (refine b4 ?_ ?_; focus (first | omega | (simp <;> omega))) | refine b2 ?_ | refine Below.drew ?_ | (refine b5 ?_ ?_; focus (first | omega | (simp <;> omega))) | (refine b1 ?_ ?_; focus (first | omega | (simp <;> omega))) | (refine b3 (by assumption) ?_ ?_; focus (first | omega | (simp <;> omega))) | (refine b6 (by assumption) ?_ ?_; focus (first | omega | (simp <;> omega)))))
      go_roundg (N - (p + 1))
      case measure => have := HP2.out; omega
      case rel =>
        refine ⟨p + 1, by omega, by omega, ?_, q32, r12, r22, hB2⟩
        rw [padP_succ, ← HNL.out, pad_zero _ _ _ (by omega) (by rw [← HN.out]; omega)]; exact hO2
    · have t1 : ((p : Int) % 64 == 56) = true := by rw [beq_iff_eq]; have := hN3.out; omega
      have t2 : ((p : Int) % 64 != 56) = false := by simp [bne, t1]
      have hp : p = N := by omega
      subst hp
      clear HP2 hp3 hpN hw3
      go_wp2_with fail
      go_loopg [5, 7] 8 (fun k v i wr => ∃ t : Nat, t + k = 8 ∧ i = .int .i64 t ∧ Own wr (s1 + 2) v (padP l (p + t)) ∧ wr.heap[w.heap.size]? = some (.cells (brow 32 fun _ => 0#8) 26 (0, 0)) ∧ wr.heap[s1]? = some (.cells (words 8 H0) 34 (0, 0)) ∧ wr.heap[s1 + 1]? = some (.cells (words 64 K0) 41 (0, 0)) ∧ Below w.heap.size w wr)
      case atStart => exact ⟨0, by omega, rfl, hO, q3, r1, r2, hBW⟩
      case round =>
        clear hO q3 r1 r2 hBW hc2 hsr hA2 t1
        obtain ⟨t, ht, rfl, hO, q3, r1, r2, hBW⟩ := hrel
        have HT := hid ht
        have ht8 : t ≤ 8 := by omega
        clear ht
        have hw3 := lt_of r2
        obtain ⟨A2, c2, rfl, hc2, hsr, hA2⟩ := hO.form
        rw [padP_len] at hO hc2 hA2 ⊢
        by_cases h8 : t < 8
        · have e0 : IntKind.i64.wrap (8 * (t : Int)) = 8 * (t : Int) := wrap64 _ (by omega) (by omega)
          have e1 : IntKind.i64.wrap (56 - 8 * (t : Int)) = 56 - 8 * (t : Int) := wrap64 _ (by omega) (by omega)
          have e2 : (0 : Int) ≤ 56 - 8 * (t : Int) := by omega
          have e3 : 56 - 8 * (t : Int) < 64 := by omega
          have e4 : (t : Int) < 8 := by omega
          have e5 : (56 - 8 * (t : Int)).toNat = 56 - 8 * t := by omega
          go_wp2_with ((at_builtin; refine arm_appB elem5 rfl (base := s1 + 2) (m := [lenb n t]) (Own.alloc hO _) (bsl_one (v := lenb n t) (heap_alloc_new _ _) (by have e := lenb_val n t; unfold by8 at e; injection e)) (by rw [padP_len]; simp; omega) (by simp; omega) ?_); refine ⟨rfl, rfl, _, rfl, ?_⟩; intro v2 w2 hO2 hb2)
          have hz2 := hb2.size
          simp only [World.size_alloc] at hz2
          have q32 : w2.heap[w.heap.size]? = some (.cells (brow 32 fun _ => 0#8) 26 (0, 0)) := by (with_reducible repeat (first | assumption | (refine p1 ?_; (first | omega | (simp <;> omega))) | (refine p2 ?_ ?_; focus (first | omega | (simp <;> omega))) | refine p3 ?_ | refine p4 ?_ | apply p5 | (refine p6 ?_ ?_; focus (first | omega | (simp <;> omega))) | apply p7 | (refine p8 ?_ ?_; focus (first | omega | (simp <;> omega))) | (refine p9 (by assumption) ?_ ?_; focus (first | omega | (simp <;> omega))) | (refine p10 (by assumption) ?_ ?_; focus (first | omega | (simp <;> omega)))))
          have r12 : w2.heap[s1]? = some (.cells (words 8 H0) 34 (0, 0)) := by (with_reducible repeat (first | assumption | (refine p1 ?_; (first | omega | (simp <;> omega))) | (refine p2 ?_ ?_; focus (first | omega | (simp <;> omega))) | refine p3 ?_ | refine p4 ?_ | apply p5 | (refine p6 ?_ ?_; focus (first | omega | (simp <;> omega))) | apply p7 | (refine p8 ?_ ?_; focus (first | omega | (simp <;> omega))) | (refine p9 (by assumption) ?_ ?_; focus (first | omega | (simp <;> omega))) | (refine p10 (by assumption) ?_ ?_; focus (first | omega | (simp <;> omega)))))
          have r22 : w2.heap[s1 + 1]? = some (.cells (words 64 K0) 41 (0, 0)) := by (with_reducible repeat (first | assumption | (refine p1 ?_; (first | omega | (simp <;> omega))) | (refine p2 ?_ ?_; focus (first | omega | (simp <;> omega))) | refine p3 ?_ | refine p4 ?_ | apply p5 | (refine p6 ?_ ?_; focus (first | omega | (simp <;> omega))) | apply p7 | (refine p8 ?_ ?_; focus (first | omega | (simp <;> omega))) | (refine p9 (by assumption) ?_ ?_; focus (first | omega | (simp <;> omega))) | (refine p10 (by assumption) ?_ ?_; focus (first | omega | (simp <;> omega)))))
          have hB2 : Below w.heap.size w w2 := by (with_reducible repeat (first | assumption | exact Below.refl _ _ | (refine b4 ?_ ?_; focus (first | omega | (simp <;> omega))) | refine b2 ?_ | refine Below.drew ?_ | (refine b5 ?_ ?_; focus (first | omega | (simp <;> omega))) | (refine b1 ?_ ?_; focus (first | omega | (simp <;> omega))) | (refine b3 (by assumption) ?_ ?_; focus (first | omega | (simp <;> omega))) | (refine b6 (by assumption) ?_ ?_; focus (first | omega | (simp <;> omega)))))
          go_roundg (8 - (t + 1))
          case measure => have := HT.out; omega
          case rel =>
            refine ⟨t + 1, by omega, by go_num, ?_, q32, r12, r22, hB2⟩
            rw [← Nat.add_assoc, padP_succ, ← HNL.out, show pad (lf l) n (p + t) = lenb n t by rw [HN.out, pad_len]]; exact hO2
        · have e : t = 8 := by omega
          subst e
          clear HT ht8 h8
          have hpl : p + 8 = plen n := by have := HN.out; have := plen_ge n; omega
          rw [hpl] at hO hc2 hA2 hsr ⊢
          obtain ⟨g, rfl, hgb⟩ := hA2 (by omega)
          clear hpl
          have hpl := plen_ge n
          obtain ⟨Q, hQ⟩ : ∃ Q, Q = plen n / 64 := ⟨_, rfl⟩
          obtain ⟨L, hL⟩ : ∃ L, L = plen n := ⟨_, rfl⟩
          have hLQ : L = 64 * Q := by omega
          have hLb : L ≤ n + 72 := by omega
          rw [← hL] at hO hc2 hsr ⊢
          have HL := hid hL
          have HQ := hid hQ
          have HLQ := hid hLQ
          clear hL hQ hLQ hpl
          go_wp2_with fail
          go_loopg [8] Q (fun k i wr => ∃ q x : Nat, q + k = Q ∧ Hid (x = 64 * q) ∧ i = .int .i64 (x : Int) ∧ Own wr (s1 + 2) (.slice (some ⟨g, 0, none⟩) L c2) (padP l L) ∧ wr.heap[w.heap.size]? = some (.cells (brow 32 fun _ => 0#8) 26 (0, 0)) ∧ wr.heap[s1]? = some (.cells (words 8 (stm (pad (lf l) n) q)) 34 (0, 0)) ∧ wr.heap[s1 + 1]? = some (.cells (words 64 K0) 41 (0, 0)) ∧ Below w.heap.size w wr)
          case atStart => exact ⟨0, 0, by omega, rfl, rfl, hO, q3, r1, r2, hBW⟩
          case round =>
            clear hO q3 r1 r2 hBW hsr
            obtain ⟨q, x, hq, HX, rfl, hO, q3, r1, r2, hBW⟩ := hrel
            have HQ2 := hid hq
            clear hq
            have hw3 := lt_of r2
            have hxl : x ≤ L := by have := HX.out; have := HQ2.out; have := HLQ.out; omega
            by_cases hql : q < Q
            · have hx2 : x + 64 ≤ L := by have := HX.out; have := HLQ.out; omega
              have hlt2 : (x : Int) < (L : Int) := by omega
              have sl := slice29blk g L c2 x hx2 hc2
              have ew : IntKind.i64.wrap ((x : Int) + 64) = (x : Int) + 64 := wrap64 _ (by omega) (by omega)
              have hby : Bytes wr.drew g x 64 (fun i => pad (lf l) n (64 * q + i)) := by
                intro i hi
                have hbs := hO.form
                obtain ⟨A3, c3, e3, _, hb3, _⟩ := hbs
                injection e3 with e3 _ _
                obtain ⟨b4, o4, e4, _, hc4⟩ := hb3 (by rw [padP_len]; omega)
                rw [← e3] at e4
                have e5 := Option.some.inj e4
                have e6 : g = b4 := congrArg Addr.block e5
                have e7 : 0 = o4 := congrArg Addr.off e5
                subst e6; subst e7
                have := hc4 (x + i) (by rw [padP_len]; omega)
                rw [padP_at _ _ _ (by omega), Nat.zero_add, ← HNL.out] at this
                rw [← HX.out]
                exact this
              have hgl : g < wr.drew.heap.size := by
                have := hO.lt g rfl; exact this.2
              have HBY := hid hby
              clear hby
              go_wp2_with fail
              refine Arr.region_tail 7 (by kernel_rfl) (by kernel_rfl) rfl rfl ?_; simp only [List.take_succ_cons, List.take_zero, List.drop_succ_cons, List.drop_zero]
              refine still_load row34 rfl ⟨rfl, _, _, _, _, rfl, p4 r1, words_size _ _, ?_⟩; (try simp only [Act.put, Act.eval, List.setIfInBounds_toArray, List.set_cons_zero, List.set_cons_succ, Array.getD_eq_getD_getElem?, List.getElem?_toArray, List.getElem?_cons_zero, List.getElem?_cons_succ, Option.getD_some])
              refine still_load row41 rfl ⟨rfl, _, _, _, _, rfl, p4 r2, words_size _ _, ?_⟩; (try simp only [Act.put, Act.eval, List.setIfInBounds_toArray, List.set_cons_zero, List.set_cons_succ, Array.getD_eq_getD_getElem?, List.getElem?_toArray, List.getElem?_cons_zero, List.getElem?_cons_succ, Option.getD_some])
              (repeat still_step)
              refine wpStill_nil ?_
              go_wp2_with (first | (go_at_call 42; (with_reducible refine (ref_block (stm (pad (lf l) n) q) K0 g x _ (fun i => pad (lf l) n (64 * q + i)) _ hgl HBY.out).mono ?_); rintro e w4 ⟨rfl, hb4⟩; have r14 : w4.heap[s1]? = some (.cells (words 8 (stm (pad (lf l) n) q)) 34 (0, 0)) := by (with_reducible repeat (first | assumption | (refine p1 ?_; (first | omega | (simp <;> omega))) | (refine p2 ?_ ?_; focus (first | omega | (simp <;> omega))) | refine p3 ?_ | refine p4 ?_ | apply p5 | (refine p6 ?_ ?_; focus (first | omega | (simp <;> omega))) | apply p7 | (refine p8 ?_ ?_; focus (first | omega | (simp <;> omega))) | (refine p9 (by assumption) ?_ ?_; focus (first | omega | (simp <;> omega))) | (refine p10 (by assumption) ?_ ?_; focus (first | omega | (simp <;> omega)))))) | ((with_reducible refine Arr.arm_store row34 rfl ?_); refine ⟨rfl, _, _, _, _, rfl, rfl, by (with_reducible repeat (first | assumption | (refine p1 ?_; (first | omega | (simp <;> omega))) | (refine p2 ?_ ?_; focus (first | omega | (simp <;> omega))) | refine p3 ?_ | refine p4 ?_ | apply p5 | (refine p6 ?_ ?_; focus (first | omega | (simp <;> omega))) | apply p7 | (refine p8 ?_ ?_; focus (first | omega | (simp <;> omega))) | (refine p9 (by assumption) ?_ ?_; focus (first | omega | (simp <;> omega))) | (refine p10 (by assumption) ?_ ?_; focus (first | omega | (simp <;> omega))))), by (exact words_size _ _), by (exact words_size _ _), by (exact words_one _ _), ?_⟩))
              have hO4 : Own w4 (s1 + 2) (.slice (some ⟨g, 0, none⟩) L c2) (padP l L) := Own.below (Own.drew hO) hb4
              go_roundg (Q - (q + 1))
              case measure => have := HQ2.out; omega
              case rel =>
                refine ⟨q + 1, x + 64, by omega, by have := HX.out; show x + 64 = 64 * (q + 1); omega, by go_num, ?_, by (with_reducible repeat (first | assumption | (refine p1 ?_; (first | omega | (simp <;> omega))) | (refine p2 ?_ ?_; focus (first | omega | (simp <;> omega))) | refine p3 ?_ | refine p4 ?_ | apply p5 | (refine p6 ?_ ?_; focus (first | omega | (simp <;> omega))) | apply p7 | (refine p8 ?_ ?_; focus (first | omega | (simp <;> omega))) | (refine p9 (by assumption) ?_ ?_; focus (first | omega | (simp <;> omega))) | (refine p10 (by assumption) ?_ ?_; focus (first | omega | (simp <;> omega))))), ?_, by (with_reducible repeat (first | assumption | (refine p1 ?_; (first | omega | (simp <;> omega))) | (refine p2 ?_ ?_; focus (first | omega | (simp <;> omega))) | refine p3 ?_ | refine p4 ?_ | apply p5 | (refine p6 ?_ ?_; focus (first | omega | (simp <;> omega))) | apply p7 | (refine p8 ?_ ?_; focus (first | omega | (simp <;> omega))) | (refine p9 (by assumption) ?_ ?_; focus (first | omega | (simp <;> omega))) | (refine p10 (by assumption) ?_ ?_; focus (first | omega | (simp <;> omega))))), by (with_reducible repeat (first | assumption | exact Below.refl _ _ | (refine b4 ?_ ?_; focus (first | omega | (simp <;> omega))) | refine b2 ?_ | refine Below.drew ?_ | (refine b5 ?_ ?_; focus (first | omega | (simp <;> omega))) | (refine b1 ?_ ?_; focus (first | omega | (simp <;> omega))) | (refine b3 (by assumption) ?_ ?_; focus (first | omega | (simp <;> omega))) | (refine b6 (by assumption) ?_ ?_; focus (first | omega | (simp <;> omega)))))⟩
                · refine Own.but hO4 (g := s1) (by (with_reducible repeat (first | assumption | exact gbr | refine gb4 ?_ | refine gb2 ?_ | refine gb3 ?_ | (refine gb5 ?_ ?_; focus (first | omega | (simp <;> omega))) | (refine gb1 ?_ ?_; focus (first | omega | (simp <;> omega))) | (refine gb8 (by assumption) ?_) | (refine gb6 (by assumption) ?_ ?_; focus (first | omega | (simp <;> omega))) | (refine gb7 (by assumption) ?_ ?_; focus (first | omega | (simp <;> omega))) | (refine gb0 ?_; focus ((with_reducible repeat (first | assumption | exact Below.refl _ _ | (refine b4 ?_ ?_; focus (first | omega | (simp <;> omega))) | refine b2 ?_ | refine Below.drew ?_ | (refine b5 ?_ ?_; focus (first | omega | (simp <;> omega))) | (refine b1 ?_ ?_; focus (first | omega | (simp <;> omega))) | (refine b3 (by assumption) ?_ ?_; focus (first | omega | (simp <;> omega))) | (refine b6 (by assumption) ?_ ?_; focus (first | omega | (simp <;> omega))))); done))))) (by omega)
                · rw [show stm (pad (lf l) n) (q + 1) = blockf K0 (stm (pad (lf l) n) q) (fun i => pad (lf l) n (64 * q + i)) from rfl]; (with_reducible repeat (first | assumption | (refine p1 ?_; (first | omega | (simp <;> omega))) | (refine p2 ?_ ?_; focus (first | omega | (simp <;> omega))) | refine p3 ?_ | refine p4 ?_ | apply p5 | (refine p6 ?_ ?_; focus (first | omega | (simp <;> omega))) | apply p7 | (refine p8 ?_ ?_; focus (first | omega | (simp <;> omega))) | (refine p9 (by assumption) ?_ ?_; focus (first | omega | (simp <;> omega))) | (refine p10 (by assumption) ?_ ?_; focus (first | omega | (simp <;> omega)))))
            · have hx : x = L := by have := HX.out; have := HLQ.out; have := HQ2.out; omega
              have hqQ : q = Q := by have := HQ2.out; omega
              have tx : ((x : Int) < (L : Int)) = False := by simp; omega
              have HXL := hid hx
              have HQQ := hid hqQ
              clear hx hqQ HX HQ2 hql hxl
              obtain ⟨HF, hHF⟩ : ∃ HF, HF = stm (pad (lf l) n) q := ⟨_, rfl⟩
              rw [← hHF] at r1
              have HHF := hid hHF
              clear hHF hO
              obtain ⟨w5, hw5⟩ : ∃ w5 : World, w5 = wr := ⟨_, rfl⟩
              subst hw5
              go_wp2_with fail
              go_loopg [10] 32 (fun k i wr => ∃ t : Nat, t + k = 32 ∧ i = .int .i64 t ∧ wr.heap[w5.heap.size]? = some (.cells (brow 32 (uptoB (dig HF) t)) 26 (0, 0)) ∧ Below w5.heap.size w5 wr)
              case atStart => exact ⟨0, by omega, rfl, by rw [uptoB_zero]; (with_reducible repeat (first | assumption | (refine p1 ?_; (first | omega | (simp <;> omega))) | (refine p2 ?_ ?_; focus (first | omega | (simp <;> omega))) | refine p3 ?_ | refine p4 ?_ | apply p5 | (refine p6 ?_ ?_; focus (first | omega | (simp <;> omega))) | apply p7 | (refine p8 ?_ ?_; focus (first | omega | (simp <;> omega))) | (refine p9 (by assumption) ?_ ?_; focus (first | omega | (simp <;> omega))) | (refine p10 (by assumption) ?_ ?_; focus (first | omega | (simp <;> omega))))), by (with_reducible repeat (first | assumption | exact Below.refl _ _ | (refine b4 ?_ ?_; focus (first | omega | (simp <;> omega))) | refine b2 ?_ | refine Below.drew ?_ | (refine b5 ?_ ?_; focus (first | omega | (simp <;> omega))) | (refine b1 ?_ ?_; focus (first | omega | (simp <;> omega))) | (refine b3 (by assumption) ?_ ?_; focus (first | omega | (simp <;> omega))) | (refine b6 (by assumption) ?_ ?_; focus (first | omega | (simp <;> omega)))))⟩
              case round =>
                obtain ⟨t, ht, rfl, g6, hB6⟩ := hrel
                have HT := hid ht
                have ht8 : t ≤ 32 := by omega
                clear ht
                by_cases h8 : t < 32
                · obtain ⟨a, ha⟩ : ∃ a, a = t / 4 := ⟨_, rfl⟩
                  obtain ⟨b, hb⟩ : ∃ b, b = t % 4 := ⟨_, rfl⟩
                  have a8 : a < 8 := by omega
                  have b4 : b < 4 := by omega
                  have e0 : (t : Int) / 4 = (a : Int) := by omega
                  have e1 : (t : Int) % 4 = (b : Int) := by omega
                  have HA := hid ha
                  have HBB := hid hb
                  clear ha hb
                  have a8' : (a : Int) < 8 := by omega
                  have e2 : IntKind.i64.wrap (8 * (b : Int)) = 8 * (b : Int) := wrap64 _ (by omega) (by omega)
                  have e3 : IntKind.i64.wrap (24 - 8 * (b : Int)) = 24 - 8 * (b : Int) := wrap64 _ (by omega) (by omega)
                  have e4 : (0 : Int) ≤ 24 - 8 * (b : Int) := by omega
                  have e5 : 24 - 8 * (b : Int) < 32 := by omega
                  have e6 : (24 - 8 * (b : Int)).toNat = 24 - 8 * b := by omega
                  have ca : wr.cell? ⟨s1, a, none⟩ = some (wd (HF a)) := (cell_below hB6 s1 _ (by omega)).trans (cell_of r1 (words_get 8 HF a a8))
                  unfold wd at ca
                  go_wp2_with (first | ((with_reducible refine Arr.arm_store1 Sha7.cell5 rfl ?_); refine ⟨rfl, _, _, _, _, _, rfl, rfl, by (with_reducible repeat (first | assumption | (refine p1 ?_; (first | omega | (simp <;> omega))) | (refine p2 ?_ ?_; focus (first | omega | (simp <;> omega))) | refine p3 ?_ | refine p4 ?_ | apply p5 | (refine p6 ?_ ?_; focus (first | omega | (simp <;> omega))) | apply p7 | (refine p8 ?_ ?_; focus (first | omega | (simp <;> omega))) | (refine p9 (by assumption) ?_ ?_; focus (first | omega | (simp <;> omega))) | (refine p10 (by assumption) ?_ ?_; focus (first | omega | (simp <;> omega))))), by (rw [brow_size]; omega), rfl, ?_⟩; (try simp only [Act.put, Act.eval, List.setIfInBounds_toArray, List.set_cons_zero, List.set_cons_succ, Array.getD_eq_getD_getElem?, List.getElem?_toArray, List.getElem?_cons_zero, List.getElem?_cons_succ, Option.getD_some])))
                  go_roundg (32 - (t + 1))
                  case measure => have := HT.out; omega
                  case rel =>
                    refine ⟨t + 1, by omega, by go_num, ?_, by (with_reducible repeat (first | assumption | exact Below.refl _ _ | (refine b4 ?_ ?_; focus (first | omega | (simp <;> omega))) | refine b2 ?_ | refine Below.drew ?_ | (refine b5 ?_ ?_; focus (first | omega | (simp <;> omega))) | (refine b1 ?_ ?_; focus (first | omega | (simp <;> omega))) | (refine b3 (by assumption) ?_ ?_; focus (first | omega | (simp <;> omega))) | (refine b6 (by assumption) ?_ ?_; focus (first | omega | (simp <;> omega)))))⟩
                    rw [← uptoB_set (dig HF) 32 t _ rfl, ← dig_at HF t a b HA.out HBB.out]
                    (with_reducible repeat (first | assumption | (refine p1 ?_; (first | omega | (simp <;> omega))) | (refine p2 ?_ ?_; focus (first | omega | (simp <;> omega))) | refine p3 ?_ | refine p4 ?_ | apply p5 | (refine p6 ?_ ?_; focus (first | omega | (simp <;> omega))) | apply p7 | (refine p8 ?_ ?_; focus (first | omega | (simp <;> omega))) | (refine p9 (by assumption) ?_ ?_; focus (first | omega | (simp <;> omega))) | (refine p10 (by assumption) ?_ ?_; focus (first | omega | (simp <;> omega)))))
                · have e : t = 32 := by omega
                  subst e
                  rw [uptoB_all] at g6
                  have q4 : wr.heap[w.heap.size]? = some (.cells (brow 32 fun _ => 0#8) 26 (0, 0)) := by (with_reducible repeat (first | assumption | (refine p1 ?_; (first | omega | (simp <;> omega))) | (refine p2 ?_ ?_; focus (first | omega | (simp <;> omega))) | refine p3 ?_ | refine p4 ?_ | apply p5 | (refine p6 ?_ ?_; focus (first | omega | (simp <;> omega))) | apply p7 | (refine p8 ?_ ?_; focus (first | omega | (simp <;> omega))) | (refine p9 (by assumption) ?_ ?_; focus (first | omega | (simp <;> omega))) | (refine p10 (by assumption) ?_ ?_; focus (first | omega | (simp <;> omega)))))
                  go_wp2_with (first | ((with_reducible refine Arr.arm_load row26 rfl ?_); refine ⟨rfl, _, _, _, _, rfl, by (with_reducible repeat (first | assumption | (refine p1 ?_; (first | omega | (simp <;> omega))) | (refine p2 ?_ ?_; focus (first | omega | (simp <;> omega))) | refine p3 ?_ | refine p4 ?_ | apply p5 | (refine p6 ?_ ?_; focus (first | omega | (simp <;> omega))) | apply p7 | (refine p8 ?_ ?_; focus (first | omega | (simp <;> omega))) | (refine p9 (by assumption) ?_ ?_; focus (first | omega | (simp <;> omega))) | (refine p10 (by assumption) ?_ ?_; focus (first | omega | (simp <;> omega))))), by (exact brow_size _ _), ?_⟩; skip) | ((with_reducible refine Arr.arm_store row26 rfl ?_); refine ⟨rfl, _, _, _, _, rfl, rfl, by (with_reducible repeat (first | assumption | (refine p1 ?_; (first | omega | (simp <;> omega))) | (refine p2 ?_ ?_; focus (first | omega | (simp <;> omega))) | refine p3 ?_ | refine p4 ?_ | apply p5 | (refine p6 ?_ ?_; focus (first | omega | (simp <;> omega))) | apply p7 | (refine p8 ?_ ?_; focus (first | omega | (simp <;> omega))) | (refine p9 (by assumption) ?_ ?_; focus (first | omega | (simp <;> omega))) | (refine p10 (by assumption) ?_ ?_; focus (first | omega | (simp <;> omega))))), by (exact brow_size _ _), by (exact brow_size _ _), by (exact brow_one _ _), ?_⟩))
                  refine Arr.ret_row rfl row26 rfl ⟨_, _, _, _, rfl, by (with_reducible repeat (first | assumption | (refine p1 ?_; (first | omega | (simp <;> omega))) | (refine p2 ?_ ?_; focus (first | omega | (simp <;> omega))) | refine p3 ?_ | refine p4 ?_ | apply p5 | (refine p6 ?_ ?_; focus (first | omega | (simp <;> omega))) | apply p7 | (refine p8 ?_ ?_; focus (first | omega | (simp <;> omega))) | (refine p9 (by assumption) ?_ ?_; focus (first | omega | (simp <;> omega))) | (refine p10 (by assumption) ?_ ?_; focus (first | omega | (simp <;> omega))))), by (exact brow_size _ _), ?_⟩
                  exact ⟨by rw [HHF.out, HQQ.out, HQ.out, HNL.out]; rfl, by (with_reducible repeat (first | assumption | exact Below.refl _ _ | (refine b4 ?_ ?_; focus (first | omega | (simp <;> omega))) | refine b2 ?_ | refine Below.drew ?_ | (refine b5 ?_ ?_; focus (first | omega | (simp <;> omega))) | (refine b1 ?_ ?_; focus (first | omega | (simp <;> omega))) | (refine b3 (by assumption) ?_ ?_; focus (first | omega | (simp <;> omega))) | (refine b6 (by assumption) ?_ ?_; focus (first | omega | (simp <;> omega)))))⟩
end Go.Proofs.YtfkeaglbfembnaaDoor.Sha10
