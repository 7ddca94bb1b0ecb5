/- HMAC, as the program reckons it. -/
import Derived.WalkKit
import Derived.StillTactics
import Derived.Outline
import Derived.Deep.DeepCutAuto
import Derived.Deep.CutBlock
import Derived.Test.YtfkeaglbfembnaaDoorSha15
namespace Go.Proofs.YtfkeaglbfembnaaDoor.Sha17
open Go Go.RowKit Go.Proofs.YtfkeaglbfembnaaDoor.Arr Go.Proofs.YtfkeaglbfembnaaDoor.Mid Go.Proofs.YtfkeaglbfembnaaDoor.App Go.Proofs.YtfkeaglbfembnaaDoor.Sha1 Go.Proofs.YtfkeaglbfembnaaDoor.Sha2 Go.Proofs.YtfkeaglbfembnaaDoor.Sha4 Go.Proofs.YtfkeaglbfembnaaDoor.Sha5 Go.Proofs.YtfkeaglbfembnaaDoor.Sha6 Go.Proofs.YtfkeaglbfembnaaDoor.Sha7 Go.Proofs.YtfkeaglbfembnaaDoor.Sha8 Go.Proofs.YtfkeaglbfembnaaDoor.Sha9 Go.Proofs.YtfkeaglbfembnaaDoor.Sha10 Go.Proofs.YtfkeaglbfembnaaDoor.Sha11 Go.Proofs.YtfkeaglbfembnaaDoor.Sha12 Go.Proofs.YtfkeaglbfembnaaDoor.Sha13
set_option maxRecDepth 100000
set_option linter.unusedVariables false
set_option linter.unusedSimpArgs false
/-- The first n of f, as a list. -/
def rowL (n : Nat) (f : Nat → B8) : Bytes8 := (List.range n).map f
theorem rowL_len (n : Nat) (f : Nat → B8) : (rowL n f).length = n := by simp [rowL]
theorem rowL_at (n : Nat) (f : Nat → B8) (i : Nat) (h : i < n) : lf (rowL n f) i = f i := by
  unfold lf rowL; rw [List.getD_eq_getElem?_getD, List.getElem?_map, List.getElem?_range h]; rfl
theorem rowL_congr (n : Nat) (f g : Nat → B8) (h : ∀ i, i < n → f i = g i) : rowL n f = rowL n g := by
  unfold rowL; apply List.map_congr_left; intro i hi; exact h i (by simpa using hi)
theorem rowL_succ (n : Nat) (f : Nat → B8) : rowL (n + 1) f = rowL n f ++ [f n] := by unfold rowL; rw [List.range_succ, List.map_append]; rfl
theorem bsl_row {w : World} {b : Nat} {t : TypeId} {fr : Nat × Nat} {n : Nat} {f : Nat → B8} (h : w.heap[b]? = some (.cells (brow n f) t fr)) : BSl w w.heap.size (some ⟨b, 0, none⟩) (rowL n f) :=
  bsl_block h (fun i hi => by rw [rowL_len] at hi; rw [rowL_at n f i hi]; exact brow_get n f i hi)
/-- The key with noughts behind it. -/
def keyb (K : Nat → B8) (i : Nat) : B8 := if i < 32 then K i else 0#8
def ipad (K : Nat → B8) (i : Nat) : B8 := keyb K i ^^^ 54#8
def opad (K : Nat → B8) (i : Nat) : B8 := keyb K i ^^^ 92#8
/-- The HMAC of l by the key K. -/
def hmac (K : Nat → B8) (l : Bytes8) : Nat → B8 := shaL (rowL 64 (opad K) ++ rowL 32 (shaL (rowL 64 (ipad K) ++ l)))
def mixB (f g : Nat → B8) (t i : Nat) : B8 := if i < t then f i else g i
theorem mixB_zero (n : Nat) (f g : Nat → B8) : brow n (mixB f g 0) = brow n g := by
  apply brow_congr; intro i _; unfold mixB; rw [if_neg (by omega)]
theorem mixB_all (n : Nat) (f g : Nat → B8) : brow n (mixB f g n) = brow n f := by
  apply brow_congr; intro i h; unfold mixB; rw [if_pos h]
theorem mixB_set (n : Nat) (f g : Nat → B8) (t : Nat) (z : B8) (hz : z = f t) : (brow n (mixB f g t)).setIfInBounds t (by8 z) = brow n (mixB f g (t + 1)) := by
  subst hz
  rw [brow_set]; apply brow_congr; intro i _; unfold mixB
  by_cases e : i = t
  · subst e; simp
  · rw [if_neg e]; by_cases l : i < t
    · rw [if_pos l, if_pos (by omega)]
    · rw [if_neg l, if_neg (by omega)]
theorem blit_key (K : Nat → B8) : blit (brow 64 fun _ => 0#8) 0 ((List.range 32).map fun i => by8 (K i)) = brow 64 (keyb K) := by
  have hl : ((List.range 32).map fun i => by8 (K i)).length = 32 := by simp
  apply Array.ext_getElem?
  intro i
  rw [blit_get _ _ _ (by rw [hl, brow_size]; omega), hl]
  by_cases h : i < 32
  · rw [if_pos (by omega), brow_get _ _ _ (by omega), Nat.sub_zero, List.getElem?_map, List.getElem?_range h]
    unfold keyb; rw [if_pos h]; rfl
  · rw [if_neg (by omega)]
    by_cases h2 : i < 64
    · rw [brow_get _ _ _ h2, brow_get _ _ _ h2]; unfold keyb; rw [if_neg h]
    · rw [Array.getElem?_eq_none (by rw [brow_size]; omega), Array.getElem?_eq_none (by rw [brow_size]; omega)]
theorem zero35 : ∀ w, (zeroValue 35).run Tryd.prog w = .ok (.agg (brow 64 fun _ => 0#8)) w := by intro w; kernel_rfl
theorem elem29 : ElemTy Tryd.prog 22 29 1 24 := by
  have h : (Tryd.prog.info? 29).map (fun i => (i.zero, i.size, i.bytes)) = some (some (.slice none 0 0), 1, 24) := by kernel_rfl
  obtain ⟨i, hi, hz, hs, hb⟩ := info_parts h
  exact ⟨Tryd.underlying22, ⟨i, _, hi, hz, hs, hb, rfl⟩, by omega⟩
/-- What a list of slices' cells are. -/
theorem psl_cells {w : World} {B : Nat} {A : Option Addr} {ps : List Bytes8} (h : PSl w B A ps) : ∃ (As : Nat → Option Addr) (cs : Nat → Nat), (0 < ps.length → ∃ b o, A = some ⟨b, o, none⟩ ∧ b < B ∧ ∀ k, k < ps.length → w.cell? ⟨b, o + k, none⟩ = some (.slice (As k) (ps.getD k []).length (cs k))) ∧
    ∀ k, k < ps.length → (ps.getD k []).length ≤ cs k ∧ BSl w B (As k) (ps.getD k []) := by
  by_cases h0 : 0 < ps.length
  · obtain ⟨b, o, e, hb, hc⟩ := h h0
    have each : ∀ k, ∃ x : Option Addr × Nat, k < ps.length → w.cell? ⟨b, o + k, none⟩ = some (.slice x.1 (ps.getD k []).length x.2) ∧ (ps.getD k []).length ≤ x.2 ∧ BSl w B x.1 (ps.getD k []) := by
      intro k
      by_cases hk : k < ps.length
      · obtain ⟨A', c, h1, h2, h3⟩ := hc k hk
        exact ⟨(A', c), fun _ => ⟨h1, h2, h3⟩⟩
      · exact ⟨(none, 0), fun h => absurd h hk⟩
    obtain ⟨f, hf⟩ := Classical.skolem.1 each
    exact ⟨fun k => (f k).1, fun k => (f k).2, fun _ => ⟨b, o, e, hb, fun k hk => (hf k hk).1⟩, fun k hk => (hf k hk).2⟩
  · exact ⟨fun _ => none, fun _ => 0, fun h => absurd h h0, fun k hk => absurd hk (by omega)⟩
/-- A slice of slices of the call's own reads as lists. -/
theorem psl_own {w : World} {base n : Nat} {v : Value} {xs : List Value} {qs : List Bytes8} (h : w.ownsRow base 29 1 v n xs) (hl : qs.length = n)
    (hx : ∀ k, k < n → ∃ A' c, xs[k]? = some (.slice A' (qs.getD k []).length c) ∧ (qs.getD k []).length ≤ c ∧ BSl w w.heap.size A' (qs.getD k [])) : ∃ A c, v = .slice A qs.length c ∧ PSl w w.heap.size A qs := by
  subst hl
  rcases h.2 with ⟨rfl, h0⟩ | ⟨g, cap, cur, rfl, hb, hg, hc, _, hs, ht⟩
  · exact ⟨none, 0, by rw [h0], fun h1 => by omega⟩
  · refine ⟨some ⟨g, 0, none⟩, cap, rfl, fun _ => ⟨g, 0, rfl, lt_of hg, fun k hk => ?_⟩⟩
    obtain ⟨A', c, h1, h2, h3⟩ := hx k hk
    refine ⟨A', c, ?_, h2, h3⟩
    rw [Nat.zero_add, cell_of_row w g k cur 29 (0, 0) hg]
    rw [← ht, List.getElem?_take, if_pos (by omega), Array.getElem?_toList] at h1
    exact h1
theorem psl_two {w : World} {b B c d : Nat} {A A' : Option Addr} {t : TypeId} {fr : Nat × Nat} {l m : Bytes8} (h : w.heap[b]? = some (.cells #[.slice A l.length c, .slice A' m.length d] t fr)) (hb : b < B) (hc : l.length ≤ c) (hd : m.length ≤ d) (hl : BSl w B A l) (hm : BSl w B A' m) : PSl w B (some ⟨b, 0, none⟩) [l, m] :=
  fun _ => ⟨b, 0, rfl, hb, fun k hk => by
    match k, hk with
    | 0, _ => exact ⟨A, c, cell_of h rfl, hc, hl⟩
    | 1, _ => exact ⟨A', d, cell_of h rfl, hd, hm⟩⟩
/-- The key is copied ahead of noughts. -/
theorem arm_key {ops : Array Oper} {Q : Exit → Act → World → Prop} {rest : List Oper} {o : Oper} {a : Act} {w : World} {P : Program} (hgd : o.guard = none) {d s : Operand} {dT sT : TypeId}
    (ho : o.op = .call { callee := .builtin .copy, args := #[d, s], argTypes := #[dT, sT] }) {elem : TypeId} (hu : P.underlying dT = some (.slice elem)) (hsz : (P.info? elem).map (·.size) = some 1)
    (h : ∃ g s' t t' fr, ∃ K : Nat → B8, a.eval d = .slice (some ⟨g, 0, none⟩) 64 64 ∧ a.eval s = .slice (some ⟨s', 0, none⟩) 32 32 ∧ w.heap[g]? = some (.cells (brow 64 fun _ => 0#8) t (0, 0)) ∧ w.heap[s']? = some (.cells (brow 32 K) t' fr) ∧
      wpList P ops Q rest (a.put o.dst (.int .i64 32)) (w.setRow g (brow 64 (keyb K)))) : wpList P ops Q (o :: rest) a w := by
  obtain ⟨g, s', t, t', fr, K, hd, hs, hg, hs', h⟩ := h
  have hlen : ((List.range 32).map fun i => by8 (K i)).length = 32 := by simp
  refine arm_copy hgd ho hu hsz ⟨_, _, g, 0, _, _, _, _, _, t, (List.range 32).map fun i => by8 (K i), hd, hs, hg, ?_, ?_, ?_, ?_, ?_⟩
  · rw [hlen]; rfl
  · intro _
    refine ⟨rfl, _, rfl, fun j v hv => ?_⟩
    have hj : j < 32 := by have := (List.getElem?_eq_some_iff.1 hv).1; rwa [hlen] at this
    simp [List.getElem?_range, hj] at hv
    rw [Addr.add_mid, ← hv, Nat.zero_add]; exact cell_of hs' (brow_get 32 K j hj)
  · rw [hlen, brow_size]; omega
  · intro v hv; simp at hv; obtain ⟨_, _, rfl⟩ := hv; rfl
  · rw [blit_key, hlen]; exact h
set_option maxHeartbeats 8000000 in
theorem c_tag (K : Nat → B8) (A : Option Addr) (ps : List Bytes8) (cap B : Nat) (w : World) (hG : Glob w) (hB : B ≤ w.heap.size) (h : PSl w B A ps) (hl : ps.length < 1000000) (hn : ps.flatten.length < 1000000) :
    Calls Tryd.prog 26 #[.agg (brow 32 K), .slice A ps.length cap] w fun e w' => e = .returned (.agg (brow 32 (hmac K ps.flatten))) ∧ Below w.heap.size w w' := by
  have hlt := glob_lt hG
  have z26 := zero26
  have z35 := zero35
  go_enter Tryd.func26, Tryd.ntmps26
  go_wp2_with fail
  refine Arr.region_tail 2 (by kernel_rfl) (by kernel_rfl) rfl rfl ?_; simp only [List.take_succ_cons, List.take_zero, List.drop_succ_cons, List.drop_zero]; (repeat still_step)
  refine wpStill_nil ?_
  go_wp2_with ((with_reducible refine arm_key rfl rfl Tryd.underlying29 size5 ?_); refine ⟨_, _, _, _, _, K, rfl, rfl, by (with_reducible repeat (first | assumption | (refine p1 ?_; (first | omega | (simp <;> omega))) | (refine p2 ?_ ?_; focus (first | omega | (simp <;> omega))) | refine p3 ?_ | refine p4 ?_ | apply p5 | (refine p6 ?_ ?_; focus (first | omega | (simp <;> omega))) | apply p7 | (refine p8 ?_ ?_; focus (first | omega | (simp <;> omega))) | (refine p9 (by assumption) ?_ ?_; focus (first | omega | (simp <;> omega))) | (refine p10 (by assumption) ?_ ?_; focus (first | omega | (simp <;> omega))))), by (with_reducible repeat (first | assumption | (refine p1 ?_; (first | omega | (simp <;> omega))) | (refine p2 ?_ ?_; focus (first | omega | (simp <;> omega))) | refine p3 ?_ | refine p4 ?_ | apply p5 | (refine p6 ?_ ?_; focus (first | omega | (simp <;> omega))) | apply p7 | (refine p8 ?_ ?_; focus (first | omega | (simp <;> omega))) | (refine p9 (by assumption) ?_ ?_; focus (first | omega | (simp <;> omega))) | (refine p10 (by assumption) ?_ ?_; focus (first | omega | (simp <;> omega))))), ?_⟩; (try simp only [Act.put, Act.eval, List.setIfInBounds_toArray, List.set_cons_zero, List.set_cons_succ, Array.getD_eq_getD_getElem?, List.getElem?_toArray, List.getElem?_cons_zero, List.getElem?_cons_succ, Option.getD_some]))
  refine Arr.region_tail 2 (by kernel_rfl) (by kernel_rfl) rfl rfl ?_; simp only [List.take_succ_cons, List.take_zero, List.drop_succ_cons, List.drop_zero]; (repeat still_step)
  refine wpStill_nil ?_
  go_wp2_with ((with_reducible refine arm_key rfl rfl Tryd.underlying29 size5 ?_); refine ⟨_, _, _, _, _, K, rfl, rfl, by (with_reducible repeat (first | assumption | (refine p1 ?_; (first | omega | (simp <;> omega))) | (refine p2 ?_ ?_; focus (first | omega | (simp <;> omega))) | refine p3 ?_ | refine p4 ?_ | apply p5 | (refine p6 ?_ ?_; focus (first | omega | (simp <;> omega))) | apply p7 | (refine p8 ?_ ?_; focus (first | omega | (simp <;> omega))) | (refine p9 (by assumption) ?_ ?_; focus (first | omega | (simp <;> omega))) | (refine p10 (by assumption) ?_ ?_; focus (first | omega | (simp <;> omega))))), by (with_reducible repeat (first | assumption | (refine p1 ?_; (first | omega | (simp <;> omega))) | (refine p2 ?_ ?_; focus (first | omega | (simp <;> omega))) | refine p3 ?_ | refine p4 ?_ | apply p5 | (refine p6 ?_ ?_; focus (first | omega | (simp <;> omega))) | apply p7 | (refine p8 ?_ ?_; focus (first | omega | (simp <;> omega))) | (refine p9 (by assumption) ?_ ?_; focus (first | omega | (simp <;> omega))) | (refine p10 (by assumption) ?_ ?_; focus (first | omega | (simp <;> omega))))), ?_⟩; (try simp only [Act.put, Act.eval, List.setIfInBounds_toArray, List.set_cons_zero, List.set_cons_succ, Array.getD_eq_getD_getElem?, List.getElem?_toArray, List.getElem?_cons_zero, List.getElem?_cons_succ, Option.getD_some]))
  refine Arr.name_world _ (fun W hW => ?_)
  have g0 : W.heap[w.heap.size + 1]? = some (.cells (brow 32 fun _ => 0#8) 26 (0, 0)) := by rw [hW]; (with_reducible repeat (first | assumption | (refine p1 ?_; (first | omega | (simp <;> omega))) | (refine p2 ?_ ?_; focus (first | omega | (simp <;> omega))) | refine p3 ?_ | refine p4 ?_ | apply p5 | (refine p6 ?_ ?_; focus (first | omega | (simp <;> omega))) | apply p7 | (refine p8 ?_ ?_; focus (first | omega | (simp <;> omega))) | (refine p9 (by assumption) ?_ ?_; focus (first | omega | (simp <;> omega))) | (refine p10 (by assumption) ?_ ?_; focus (first | omega | (simp <;> omega)))))
  have g1 : W.heap[w.heap.size + 1 + 1]? = some (.cells (brow 64 (keyb K)) 35 (0, 0)) := by rw [hW]; (with_reducible repeat (first | assumption | (refine p1 ?_; (first | omega | (simp <;> omega))) | (refine p2 ?_ ?_; focus (first | omega | (simp <;> omega))) | refine p3 ?_ | refine p4 ?_ | apply p5 | (refine p6 ?_ ?_; focus (first | omega | (simp <;> omega))) | apply p7 | (refine p8 ?_ ?_; focus (first | omega | (simp <;> omega))) | (refine p9 (by assumption) ?_ ?_; focus (first | omega | (simp <;> omega))) | (refine p10 (by assumption) ?_ ?_; focus (first | omega | (simp <;> omega)))))
  have g2 : W.heap[w.heap.size + 1 + 1 + 1]? = some (.cells (brow 64 (keyb K)) 35 (0, 0)) := by rw [hW]; (with_reducible repeat (first | assumption | (refine p1 ?_; (first | omega | (simp <;> omega))) | (refine p2 ?_ ?_; focus (first | omega | (simp <;> omega))) | refine p3 ?_ | refine p4 ?_ | apply p5 | (refine p6 ?_ ?_; focus (first | omega | (simp <;> omega))) | apply p7 | (refine p8 ?_ ?_; focus (first | omega | (simp <;> omega))) | (refine p9 (by assumption) ?_ ?_; focus (first | omega | (simp <;> omega))) | (refine p10 (by assumption) ?_ ?_; focus (first | omega | (simp <;> omega)))))
  have hB0 : Below w.heap.size w W := by rw [hW]; (with_reducible repeat (first | assumption | exact Below.refl _ _ | (refine b4 ?_ ?_; focus (first | omega | (simp <;> omega))) | refine b2 ?_ | refine Below.drew ?_ | (refine b5 ?_ ?_; focus (first | omega | (simp <;> omega))) | (refine b1 ?_ ?_; focus (first | omega | (simp <;> omega))) | (refine b3 (by assumption) ?_ ?_; focus (first | omega | (simp <;> omega))) | (refine b6 (by assumption) ?_ ?_; focus (first | omega | (simp <;> omega)))))
  clear hW
  go_loopg [15] 64 (fun k i wr => ∃ t : Nat, t + k = 64 ∧ i = .int .i64 t ∧ wr.heap[w.heap.size + 1]? = some (.cells (brow 32 fun _ => 0#8) 26 (0, 0)) ∧ wr.heap[w.heap.size + 1 + 1]? = some (.cells (brow 64 (mixB (ipad K) (keyb K) t)) 35 (0, 0)) ∧ wr.heap[w.heap.size + 1 + 1 + 1]? = some (.cells (brow 64 (mixB (opad K) (keyb K) t)) 35 (0, 0)) ∧ Below w.heap.size w wr)
  case atStart => exact ⟨0, by omega, rfl, g0, by rw [mixB_zero]; exact g1, by rw [mixB_zero]; exact g2, hB0⟩
  case round =>
    clear g0 g1 g2 hB0
    obtain ⟨t, ht, rfl, g0, g1, g2, hB0⟩ := hrel
    have HT := hid ht
    have ht2 : t ≤ 64 := by omega
    clear ht
    by_cases h64 : t < 64
    · have t64 : (t : Int) < 64 := by omega
      obtain ⟨x, hx⟩ : ∃ x, x = keyb K t := ⟨_, rfl⟩
      have c1 := cell_of g1 (brow_get 64 _ t h64)
      have c2 := cell_of g2 (brow_get 64 _ t h64)
      rw [show mixB (ipad K) (keyb K) t t = x by unfold mixB; rw [if_neg (by omega), hx]] at c1
      rw [show mixB (opad K) (keyb K) t t = x by unfold mixB; rw [if_neg (by omega), hx]] at c2
      unfold by8 at c1 c2
      obtain ⟨y, hy⟩ : ∃ y, y = x ^^^ 54#8 := ⟨_, rfl⟩
      obtain ⟨z, hz⟩ : ∃ z, z = x ^^^ 92#8 := ⟨_, rfl⟩
      have e1 : bits .xor .u8 (x.toNat : Int) 54 = (y.toNat : Int) := by rw [hy]; exact b8_xor x 54#8
      have e2 : bits .xor .u8 (x.toNat : Int) 92 = (z.toNat : Int) := by rw [hz]; exact b8_xor x 92#8
      have HY : Hid (y = ipad K t) := by show y = _; rw [hy, hx]; rfl
      have HZ : Hid (z = opad K t) := by show z = _; rw [hz, hx]; rfl
      clear hx hy hz
      go_wp2_with (first | ((with_reducible refine Arr.arm_store1 Sha7.cell5 rfl ?_); refine ⟨rfl, _, _, _, _, _, rfl, rfl, by (with_reducible repeat (first | assumption | (refine p1 ?_; (first | omega | (simp <;> omega))) | (refine p2 ?_ ?_; focus (first | omega | (simp <;> omega))) | refine p3 ?_ | refine p4 ?_ | apply p5 | (refine p6 ?_ ?_; focus (first | omega | (simp <;> omega))) | apply p7 | (refine p8 ?_ ?_; focus (first | omega | (simp <;> omega))) | (refine p9 (by assumption) ?_ ?_; focus (first | omega | (simp <;> omega))) | (refine p10 (by assumption) ?_ ?_; focus (first | omega | (simp <;> omega))))), by (rw [brow_size]; omega), rfl, ?_⟩; (try simp only [Act.put, Act.eval, List.setIfInBounds_toArray, List.set_cons_zero, List.set_cons_succ, Array.getD_eq_getD_getElem?, List.getElem?_toArray, List.getElem?_cons_zero, List.getElem?_cons_succ, Option.getD_some])))
      go_roundg (64 - (t + 1))
      case measure => have := HT.out; omega
      case rel =>
        refine ⟨t + 1, by omega, by go_num, by (with_reducible repeat (first | assumption | (refine p1 ?_; (first | omega | (simp <;> omega))) | (refine p2 ?_ ?_; focus (first | omega | (simp <;> omega))) | refine p3 ?_ | refine p4 ?_ | apply p5 | (refine p6 ?_ ?_; focus (first | omega | (simp <;> omega))) | apply p7 | (refine p8 ?_ ?_; focus (first | omega | (simp <;> omega))) | (refine p9 (by assumption) ?_ ?_; focus (first | omega | (simp <;> omega))) | (refine p10 (by assumption) ?_ ?_; focus (first | omega | (simp <;> omega))))), ?_, ?_, by (with_reducible repeat (first | assumption | exact Below.refl _ _ | (refine b4 ?_ ?_; focus (first | omega | (simp <;> omega))) | refine b2 ?_ | refine Below.drew ?_ | (refine b5 ?_ ?_; focus (first | omega | (simp <;> omega))) | (refine b1 ?_ ?_; focus (first | omega | (simp <;> omega))) | (refine b3 (by assumption) ?_ ?_; focus (first | omega | (simp <;> omega))) | (refine b6 (by assumption) ?_ ?_; focus (first | omega | (simp <;> omega)))))⟩
        · rw [← mixB_set 64 _ _ t y HY.out]; unfold by8; (with_reducible repeat (first | assumption | (refine p1 ?_; (first | omega | (simp <;> omega))) | (refine p2 ?_ ?_; focus (first | omega | (simp <;> omega))) | refine p3 ?_ | refine p4 ?_ | apply p5 | (refine p6 ?_ ?_; focus (first | omega | (simp <;> omega))) | apply p7 | (refine p8 ?_ ?_; focus (first | omega | (simp <;> omega))) | (refine p9 (by assumption) ?_ ?_; focus (first | omega | (simp <;> omega))) | (refine p10 (by assumption) ?_ ?_; focus (first | omega | (simp <;> omega)))))
        · rw [← mixB_set 64 _ _ t z HZ.out]; unfold by8; (with_reducible repeat (first | assumption | (refine p1 ?_; (first | omega | (simp <;> omega))) | (refine p2 ?_ ?_; focus (first | omega | (simp <;> omega))) | refine p3 ?_ | refine p4 ?_ | apply p5 | (refine p6 ?_ ?_; focus (first | omega | (simp <;> omega))) | apply p7 | (refine p8 ?_ ?_; focus (first | omega | (simp <;> omega))) | (refine p9 (by assumption) ?_ ?_; focus (first | omega | (simp <;> omega))) | (refine p10 (by assumption) ?_ ?_; focus (first | omega | (simp <;> omega)))))
    · have e : t = 64 := by omega
      subst e
      rw [mixB_all] at g1 g2
      have hz0 := hB0.size
      have hl2 := lt_of g2
      have hps := h.below hB0 hB
      obtain ⟨As, cs, hcel, hprop⟩ := psl_cells hps
      obtain ⟨news, hnews⟩ : ∃ news : List Value, news = (List.range ps.length).map fun k => Value.slice (As k) (ps.getD k []).length (cs k) := ⟨_, rfl⟩
      have hnl : news.length = ps.length * 1 := by rw [hnews]; simp
      have hn1 : ∀ u ∈ news, u.oneCell' = true := by intro u hu; rw [hnews] at hu; simp at hu; obtain ⟨_, _, rfl⟩ := hu; rfl
      have hng : ∀ j u, news[j]? = some u → j < ps.length ∧ u = .slice (As j) (ps.getD j []).length (cs j) := by
        intro j u hu
        have hj : j < ps.length := by have := (List.getElem?_eq_some_iff.1 hu).1; omega
        rw [hnews, List.getElem?_map, List.getElem?_range hj] at hu
        exact ⟨hj, (Option.some.inj hu).symm⟩
      have hsrc : ∀ ob : Obj, 0 < ps.length → ∃ b o, A = some ⟨b, o, none⟩ ∧ ∀ j u, news[j]? = some u → (wr.alloc ob).cell? ⟨b, o + j, none⟩ = some u := by
        intro ob h0
        obtain ⟨b, o, e, hb, hc⟩ := hcel h0
        refine ⟨b, o, e, fun j u hu => ?_⟩
        obtain ⟨hj, rfl⟩ := hng j u hu
        exact (World.cell?_alloc_lt wr ob ⟨b, o + j, none⟩ (by show b < wr.heap.size; omega)).trans (hc j hj)
      obtain ⟨qs, hqs⟩ : ∃ qs, qs = rowL 64 (ipad K) :: ps := ⟨_, rfl⟩
      have HSRC := hid hsrc
      have HNG := hid hng
      have HQS := hid hqs
      have HPR := hid hprop
      have HN1 := hid hn1
      have HNL := hid hnl
      clear hsrc hng hqs hprop hn1 hnews hcel hnl
      go_wp2_with ((at_builtin; refine arm_app elem29 rfl ⟨rfl, wr.heap.size, _, 1, [.slice (some ⟨w.heap.size + 1 + 1, 0, none⟩) 64 64], A, ps.length, cap, news, rfl, rfl, World.ownsRow_lit _ _ _ (Nat.le_refl _) (by unfold maxLen; omega) rfl, HNL.out, HSRC.out _, HN1.out, by unfold maxLen; omega, by omega, by simp, ?_⟩; intro v5 w5 hO5 hb5 _ _))
      have hB5 : Below wr.heap.size wr w5 := by (with_reducible repeat (first | assumption | exact Below.refl _ _ | (refine b4 ?_ ?_; focus (first | omega | (simp <;> omega))) | refine b2 ?_ | refine Below.drew ?_ | (refine b5 ?_ ?_; focus (first | omega | (simp <;> omega))) | (refine b1 ?_ ?_; focus (first | omega | (simp <;> omega))) | (refine b3 (by assumption) ?_ ?_; focus (first | omega | (simp <;> omega))) | (refine b6 (by assumption) ?_ ?_; focus (first | omega | (simp <;> omega)))))
      have hz5 := hB5.size
      have q0 : w5.heap[w.heap.size + 1]? = some (.cells (brow 32 fun _ => 0#8) 26 (0, 0)) := (hB5.block _ (by omega)).trans g0
      have q1 : w5.heap[w.heap.size + 1 + 1]? = some (.cells (brow 64 (ipad K)) 35 (0, 0)) := (hB5.block _ (by omega)).trans g1
      have q2 : w5.heap[w.heap.size + 1 + 1 + 1]? = some (.cells (brow 64 (opad K)) 35 (0, 0)) := (hB5.block _ (by omega)).trans g2
      have hown := psl_own (qs := qs) hO5 (by rw [HQS.out]; simp; omega) (fun k hk => by
        rw [HQS.out]
        match k, hk with
        | 0, _ => exact ⟨_, _, rfl, by show (rowL 64 (ipad K)).length ≤ 64; rw [rowL_len]; omega, bsl_row q1⟩
        | k + 1, hk =>
          have hkl : k < ps.length := by omega
          have hnk : k < news.length := by rw [HNL.out]; omega
          obtain ⟨_, hu⟩ := HNG.out k _ (List.getElem?_eq_getElem hnk)
          have hpr := HPR.out k hkl
          refine ⟨As k, cs k, ?_, hpr.1, BSl.mono (hpr.2.below hB5 (by omega)) (by omega)⟩
          show news[k]? = _
          rw [List.getElem?_eq_getElem hnk, hu]; rfl)
      obtain ⟨A6, c6, hv6, hp6⟩ := hown
      have hqsl : qs.length = ps.length + 1 := by rw [HQS.out]; rfl
      have hqsf : qs.flatten = rowL 64 (ipad K) ++ ps.flatten := by rw [HQS.out]; rfl
      have hB6 : Below w.heap.size w w5 := hB0.trans (hB5.mono hz0)
      have c16 := c_progSum A6 qs c6 w5.heap.size w5 (glob_below hG hB6 hlt) (Nat.le_refl _) hp6 (by omega) (by rw [hqsf, List.length_append, rowL_len]; omega)
      rw [← hv6, hqsf] at c16
      obtain ⟨D, hD⟩ : ∃ D, D = shaL (rowL 64 (ipad K) ++ ps.flatten) := ⟨_, rfl⟩
      rw [← hD] at c16
      have HD := hid hD
      have C16 := hid c16
      clear c16 hD hqsf hv6 hp6 hb5 hO5 hB5 g0 g1 g2 hB0 hps hqsl
      refine (C16.out).mono ?_
      rintro e w6 ⟨rfl, hb6⟩
      have hz6 := hb6.size
      have r0 : w6.heap[w.heap.size + 1]? = some (.cells (brow 32 fun _ => 0#8) 26 (0, 0)) := (hb6.block _ (by omega)).trans q0
      have r2 : w6.heap[w.heap.size + 1 + 1 + 1]? = some (.cells (brow 64 (opad K)) 35 (0, 0)) := (hb6.block _ (by omega)).trans q2
      have hB7 : Below w.heap.size w w6 := hB6.trans (hb6.mono (by omega))
      clear q0 q1 q2 hB6 hb6 C16
      go_upto_region 11 with (((with_reducible refine Arr.arm_store row26 rfl ?_); refine ⟨rfl, _, _, _, _, rfl, rfl, by (with_reducible repeat (first | assumption | (refine p1 ?_; (first | omega | (simp <;> omega))) | (refine p2 ?_ ?_; focus (first | omega | (simp <;> omega))) | refine p3 ?_ | refine p4 ?_ | apply p5 | (refine p6 ?_ ?_; focus (first | omega | (simp <;> omega))) | apply p7 | (refine p8 ?_ ?_; focus (first | omega | (simp <;> omega))) | (refine p9 (by assumption) ?_ ?_; focus (first | omega | (simp <;> omega))) | (refine p10 (by assumption) ?_ ?_; focus (first | omega | (simp <;> omega))))), by (exact brow_size _ _), by (exact brow_size _ _), by (exact brow_one _ _), ?_⟩))
      refine Arr.region_tail 2 (by kernel_rfl) (by kernel_rfl) rfl rfl ?_; simp only [List.take_succ_cons, List.take_zero, List.drop_succ_cons, List.drop_zero]; (repeat still_step)
      refine wpStill_nil ?_
      go_wp2_with fail
      refine name_calls _ (fun W9 hW => ?_)
      have s0 : W9.heap[w.heap.size + 1]? = some (.cells (brow 32 fun _ => 0#8) 26 (0, 0)) := by rw [hW]; (with_reducible repeat (first | assumption | (refine p1 ?_; (first | omega | (simp <;> omega))) | (refine p2 ?_ ?_; focus (first | omega | (simp <;> omega))) | refine p3 ?_ | refine p4 ?_ | apply p5 | (refine p6 ?_ ?_; focus (first | omega | (simp <;> omega))) | apply p7 | (refine p8 ?_ ?_; focus (first | omega | (simp <;> omega))) | (refine p9 (by assumption) ?_ ?_; focus (first | omega | (simp <;> omega))) | (refine p10 (by assumption) ?_ ?_; focus (first | omega | (simp <;> omega)))))
      have s1 : W9.heap[w6.heap.size]? = some (.cells (brow 32 D) 26 (0, 0)) := by rw [hW]; (with_reducible repeat (first | assumption | (refine p1 ?_; (first | omega | (simp <;> omega))) | (refine p2 ?_ ?_; focus (first | omega | (simp <;> omega))) | refine p3 ?_ | refine p4 ?_ | apply p5 | (refine p6 ?_ ?_; focus (first | omega | (simp <;> omega))) | apply p7 | (refine p8 ?_ ?_; focus (first | omega | (simp <;> omega))) | (refine p9 (by assumption) ?_ ?_; focus (first | omega | (simp <;> omega))) | (refine p10 (by assumption) ?_ ?_; focus (first | omega | (simp <;> omega)))))
      have s2 : W9.heap[w.heap.size + 1 + 1 + 1]? = some (.cells (brow 64 (opad K)) 35 (0, 0)) := by rw [hW]; (with_reducible repeat (first | assumption | (refine p1 ?_; (first | omega | (simp <;> omega))) | (refine p2 ?_ ?_; focus (first | omega | (simp <;> omega))) | refine p3 ?_ | refine p4 ?_ | apply p5 | (refine p6 ?_ ?_; focus (first | omega | (simp <;> omega))) | apply p7 | (refine p8 ?_ ?_; focus (first | omega | (simp <;> omega))) | (refine p9 (by assumption) ?_ ?_; focus (first | omega | (simp <;> omega))) | (refine p10 (by assumption) ?_ ?_; focus (first | omega | (simp <;> omega)))))
      have s3 : W9.heap[w6.heap.size + 1]? = some (.cells #[.slice (some ⟨w.heap.size + 1 + 1 + 1, 0, none⟩) 64 64, .slice (some ⟨w6.heap.size, 0, none⟩) 32 32] 29 (0, 0)) := by rw [hW]; (with_reducible repeat (first | assumption | (refine p1 ?_; (first | omega | (simp <;> omega))) | (refine p2 ?_ ?_; focus (first | omega | (simp <;> omega))) | refine p3 ?_ | refine p4 ?_ | apply p5 | (refine p6 ?_ ?_; focus (first | omega | (simp <;> omega))) | apply p7 | (refine p8 ?_ ?_; focus (first | omega | (simp <;> omega))) | (refine p9 (by assumption) ?_ ?_; focus (first | omega | (simp <;> omega))) | (refine p10 (by assumption) ?_ ?_; focus (first | omega | (simp <;> omega)))))
      have hB9 : Below w.heap.size w W9 := by rw [hW]; (with_reducible repeat (first | assumption | exact Below.refl _ _ | (refine b4 ?_ ?_; focus (first | omega | (simp <;> omega))) | refine b2 ?_ | refine Below.drew ?_ | (refine b5 ?_ ?_; focus (first | omega | (simp <;> omega))) | (refine b1 ?_ ?_; focus (first | omega | (simp <;> omega))) | (refine b3 (by assumption) ?_ ?_; focus (first | omega | (simp <;> omega))) | (refine b6 (by assumption) ?_ ?_; focus (first | omega | (simp <;> omega)))))
      have hl3 := lt_of s3
      clear hW r0 r2 hB7
      have hps9 : PSl W9 W9.heap.size (some ⟨w6.heap.size + 1, 0, none⟩) [rowL 64 (opad K), rowL 32 D] :=
        psl_two (by rw [rowL_len, rowL_len]; exact s3) hl3 (by rw [rowL_len]; omega) (by rw [rowL_len]; omega) (bsl_row s2) (bsl_row s1)
      have c16 := c_progSum (some ⟨w6.heap.size + 1, 0, none⟩) [rowL 64 (opad K), rowL 32 D] 2 W9.heap.size W9 (glob_below hG hB9 hlt) (Nat.le_refl _) hps9 (by show 2 < _; omega) (by simp [rowL_len])
      rw [show [rowL 64 (opad K), rowL 32 D].flatten = rowL 64 (opad K) ++ rowL 32 D by simp] at c16
      have HE : Hid (hmac K ps.flatten = shaL (rowL 64 (opad K) ++ rowL 32 D)) := by show _ = _; rw [HD.out]; rfl
      obtain ⟨E, hE⟩ : ∃ E, E = shaL (rowL 64 (opad K) ++ rowL 32 D) := ⟨_, rfl⟩
      rw [← hE] at c16 HE
      have C16 := hid c16
      clear c16 hE hps9
      have hlw := lt_of s0
      refine (C16.out).mono ?_
      rintro e w10 ⟨rfl, hb10⟩
      have hz10 := hb10.size
      have u0 : w10.heap[w.heap.size + 1]? = some (.cells (brow 32 fun _ => 0#8) 26 (0, 0)) := by (with_reducible repeat (first | assumption | (refine p1 ?_; (first | omega | (simp <;> omega))) | (refine p2 ?_ ?_; focus (first | omega | (simp <;> omega))) | refine p3 ?_ | refine p4 ?_ | apply p5 | (refine p6 ?_ ?_; focus (first | omega | (simp <;> omega))) | apply p7 | (refine p8 ?_ ?_; focus (first | omega | (simp <;> omega))) | (refine p9 (by assumption) ?_ ?_; focus (first | omega | (simp <;> omega))) | (refine p10 (by assumption) ?_ ?_; focus (first | omega | (simp <;> omega)))))
      go_wp2_with (((with_reducible refine Arr.arm_store row26 rfl ?_); refine ⟨rfl, _, _, _, _, rfl, rfl, by (with_reducible repeat (first | assumption | (refine p1 ?_; (first | omega | (simp <;> omega))) | (refine p2 ?_ ?_; focus (first | omega | (simp <;> omega))) | refine p3 ?_ | refine p4 ?_ | apply p5 | (refine p6 ?_ ?_; focus (first | omega | (simp <;> omega))) | apply p7 | (refine p8 ?_ ?_; focus (first | omega | (simp <;> omega))) | (refine p9 (by assumption) ?_ ?_; focus (first | omega | (simp <;> omega))) | (refine p10 (by assumption) ?_ ?_; focus (first | omega | (simp <;> omega))))), by (exact brow_size _ _), by (exact brow_size _ _), by (exact brow_one _ _), ?_⟩))
      refine Arr.ret_row rfl row26 rfl ⟨_, _, _, _, rfl, by (with_reducible repeat (first | assumption | (refine p1 ?_; (first | omega | (simp <;> omega))) | (refine p2 ?_ ?_; focus (first | omega | (simp <;> omega))) | refine p3 ?_ | refine p4 ?_ | apply p5 | (refine p6 ?_ ?_; focus (first | omega | (simp <;> omega))) | apply p7 | (refine p8 ?_ ?_; focus (first | omega | (simp <;> omega))) | (refine p9 (by assumption) ?_ ?_; focus (first | omega | (simp <;> omega))) | (refine p10 (by assumption) ?_ ?_; focus (first | omega | (simp <;> omega))))), by (exact brow_size _ _), ?_⟩
      have hz9 := hB9.size
      exact ⟨by rw [HE.out], by (with_reducible repeat (first | assumption | exact Below.refl _ _ | (refine b4 ?_ ?_; focus (first | omega | (simp <;> omega))) | refine b2 ?_ | refine Below.drew ?_ | (refine b5 ?_ ?_; focus (first | omega | (simp <;> omega))) | (refine b1 ?_ ?_; focus (first | omega | (simp <;> omega))) | (refine b3 (by assumption) ?_ ?_; focus (first | omega | (simp <;> omega))) | (refine b6 (by assumption) ?_ ?_; focus (first | omega | (simp <;> omega)))))⟩
end Go.Proofs.YtfkeaglbfembnaaDoor.Sha17
