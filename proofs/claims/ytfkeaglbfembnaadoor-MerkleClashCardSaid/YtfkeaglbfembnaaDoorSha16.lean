/- The law ShaWrites' walk. -/
import Derived.WalkKit
import Derived.StillTactics
import Derived.Outline
import Derived.Deep.DeepCutAuto
import Derived.Deep.CutBlock
import Derived.Test.YtfkeaglbfembnaaDoorSha15
namespace Go.Proofs.YtfkeaglbfembnaaDoor.Sha16
open Go Go.RowKit Go.Proofs.YtfkeaglbfembnaaDoor.Arr Go.Proofs.YtfkeaglbfembnaaDoor.Mid Go.Proofs.YtfkeaglbfembnaaDoor.App Go.Proofs.YtfkeaglbfembnaaDoor.Sha1 Go.Proofs.YtfkeaglbfembnaaDoor.Sha2 Go.Proofs.YtfkeaglbfembnaaDoor.Sha4 Go.Proofs.YtfkeaglbfembnaaDoor.Sha5 Go.Proofs.YtfkeaglbfembnaaDoor.Sha6 Go.Proofs.YtfkeaglbfembnaaDoor.Sha7 Go.Proofs.YtfkeaglbfembnaaDoor.Sha8 Go.Proofs.YtfkeaglbfembnaaDoor.Sha9 Go.Proofs.YtfkeaglbfembnaaDoor.Sha10 Go.Proofs.YtfkeaglbfembnaaDoor.Sha11 Go.Proofs.YtfkeaglbfembnaaDoor.Sha12 Go.Proofs.YtfkeaglbfembnaaDoor.Sha13
set_option maxRecDepth 100000
set_option linter.unusedVariables false
set_option linter.unusedSimpArgs false
theorem hst_heap {w w' : World} {g : Nat} {M : Nat → B8} {n : Nat} (h : Hst w g M n) (e : w'.heap[g]? = w.heap[g]?) : Hst w' g M n := by
  rcases h with ⟨R, h1, h2⟩ | ⟨h1, h2⟩
  · exact .inl ⟨R, h1, e.trans h2⟩
  · exact .inr ⟨h1, e.trans h2⟩
theorem hst_lt {w : World} {g : Nat} {M : Nat → B8} {n : Nat} (h : Hst w g M n) : g < w.heap.size := by
  rcases h with ⟨R, _, h⟩ | ⟨_, h⟩ <;> exact lt_of h
theorem hst_below {w w' : World} {g B : Nat} {M : Nat → B8} {n : Nat} (h : Hst w g M n) (hb : Below B w w') (hB : g < B) : Hst w' g M n := hst_heap h (hb.block g hB)
theorem hst_but {w w' : World} {g z : Nat} {M : Nat → B8} {n : Nat} (h : Hst w z M n) (hb : w.grownBy w' (some g)) (hz : z ≠ g) : Hst w' z M n := hst_heap h (hb.block z (hst_lt h) (fun e => hz (Option.some.inj e)))
theorem neq26 (f g : Nat → B8) (w : World) : (binOp .neq 26 (.agg (brow 32 f)) (.agg (brow 32 g))).run Tryd.prog w = .ok (.bool (!eq32 f g)) w := by
  have h := run_neq_row (P := Tryd.prog) (t := 26) (e := 5) (n := 32) Tryd.underlying26 Sha7.cell5 (brow 32 f) (brow 32 g) (fun i => f i == g i) w (fun i hi => ⟨_, _, brow_get 32 f i hi, brow_get 32 g i hi, ?_⟩)
  · rw [h]; unfold eq32; rfl
  · have hu := Tryd.underlying5
    have e : (((f i).toNat : Int) == ((g i).toNat : Int)) = (f i == g i) := by
      rw [Bool.eq_iff_iff, beq_iff_eq, beq_iff_eq]
      exact ⟨fun h => BitVec.eq_of_toNat_eq (by omega), fun h => by rw [h]⟩
    rw [← e]
    exact run_equalIn_int w 9998 5 _ _ _ _ hu
theorem lf_prefix (ps : List Bytes8) (k i : Nat) (hi : i < (pre ps k).length) : lf ps.flatten i = lf (pre ps k) i := by
  have e : ps.flatten = pre ps k ++ (ps.drop k).flatten := by unfold pre; rw [← List.flatten_append, List.take_append_drop]
  rw [e, lf_append_lt _ _ _ hi]
set_option maxHeartbeats 8000000 in
theorem c_shaWrites (A : Option Addr) (ps : List Bytes8) (cap : Nat) (w : World) (hG : Glob w) (h : PSl w w.heap.size A ps) (hl : ps.length < 10000000000000) (hll : ∀ k, k < ps.length → (ps.getD k []).length < 1000000000000000) :
    Calls Tryd.prog 4 #[.slice A ps.length cap] w fun e w' => e = .returned (.bool true) ∧ Below w.heap.size w w' := by
  have hlt := glob_lt hG
  have z26 := zero26
  have z38 := zero38
  have ev := neq26
  have hug := unguarded26
  obtain ⟨d60, hd60⟩ : ∃ d : Bool, d = decide ((60 : Int) < (ps.length : Int)) := ⟨_, rfl⟩
  have D60 := hid hd60
  go_enter Tryd.func4, Tryd.ntmps4
  go_wp2_with ((go_at_call 14; (with_reducible refine (c_awake _ hG).mono ?_); rintro e w1 ⟨rfl, hb1⟩; have hz1 := hb1.size))
  refine (c_few A ps cap w.heap.size w1 (h.below hb1 (Nat.le_refl _)) hl hll).mono ?_
  rintro e w2 ⟨b, rfl, hb, rfl⟩
  cases b
  · go_wp2_with ((go_at_call 14; (with_reducible refine (c_awake _ (glob_below hG hb1 hlt)).mono ?_); rintro e w3 ⟨rfl, hb3⟩))
    go_ret
    exact ⟨rfl, by (with_reducible repeat (first | assumption | exact Below.refl _ _ | (refine b4 ?_ ?_; focus (first | omega | (simp <;> omega))) | refine b2 ?_ | refine Below.drew ?_ | (refine b5 ?_ ?_; focus (first | omega | (simp <;> omega))) | (refine b1 ?_ ?_; focus (first | omega | (simp <;> omega))) | (refine b3 (by assumption) ?_ ?_; focus (first | omega | (simp <;> omega))) | (refine b6 (by assumption) ?_ ?_; focus (first | omega | (simp <;> omega)))))⟩
  · have hlen := hb rfl
    clear hb hd60
    have hh := h
    by_cases h60 : 60 < ps.length
    · have d1 : decide ((60 : Int) < (ps.length : Int)) = true := by simp; omega
      go_wp2_with ((go_at_call 14; (with_reducible refine (c_awake _ (glob_below hG hb1 hlt)).mono ?_); rintro e w3 ⟨rfl, hb3⟩))
      go_ret
      exact ⟨rfl, by (with_reducible repeat (first | assumption | exact Below.refl _ _ | (refine b4 ?_ ?_; focus (first | omega | (simp <;> omega))) | refine b2 ?_ | refine Below.drew ?_ | (refine b5 ?_ ?_; focus (first | omega | (simp <;> omega))) | (refine b1 ?_ ?_; focus (first | omega | (simp <;> omega))) | (refine b3 (by assumption) ?_ ?_; focus (first | omega | (simp <;> omega))) | (refine b6 (by assumption) ?_ ?_; focus (first | omega | (simp <;> omega)))))⟩
    · have d1 : decide ((60 : Int) < (ps.length : Int)) = false := by simp; omega
      go_wp2_with fail
      refine (c_join A ps cap w.heap.size w1 hz1 (h.below hb1 (Nat.le_refl _)) hl (by omega)).mono ?_
      rintro e w3 ⟨v, rfl, hO, hb3⟩
      obtain ⟨A3, c3, rfl, hc3, _, _⟩ := hO.form
      have hz3 := hb3.size
      obtain ⟨F, hF⟩ : ∃ F, F = ps.flatten := ⟨_, rfl⟩
      rw [← hF] at hlen ⊢
      have HF := hid hF
      clear hF hO hc3
      have hB3 : Below w.heap.size w w3 := by (with_reducible repeat (first | assumption | exact Below.refl _ _ | (refine b4 ?_ ?_; focus (first | omega | (simp <;> omega))) | refine b2 ?_ | refine Below.drew ?_ | (refine b5 ?_ ?_; focus (first | omega | (simp <;> omega))) | (refine b1 ?_ ?_; focus (first | omega | (simp <;> omega))) | (refine b3 (by assumption) ?_ ?_; focus (first | omega | (simp <;> omega))) | (refine b6 (by assumption) ?_ ?_; focus (first | omega | (simp <;> omega)))))
      clear hb1 hb3
      by_cases hbig : 5000 < F.length
      · have d2 : decide ((5000 : Int) < (F.length : Int)) = true := by simp; omega
        go_wp2_with ((go_at_call 14; (with_reducible refine (c_awake _ (glob_below hG hB3 hlt)).mono ?_); rintro e w4 ⟨rfl, hb4⟩))
        go_ret
        exact ⟨rfl, by (with_reducible repeat (first | assumption | exact Below.refl _ _ | (refine b4 ?_ ?_; focus (first | omega | (simp <;> omega))) | refine b2 ?_ | refine Below.drew ?_ | (refine b5 ?_ ?_; focus (first | omega | (simp <;> omega))) | (refine b1 ?_ ?_; focus (first | omega | (simp <;> omega))) | (refine b3 (by assumption) ?_ ?_; focus (first | omega | (simp <;> omega))) | (refine b6 (by assumption) ?_ ?_; focus (first | omega | (simp <;> omega)))))⟩
      · have d2 : decide ((5000 : Int) < (F.length : Int)) = false := by simp; omega
        have hz0 := hB3.size
        go_wp2_with (go_at_call 19; (with_reducible refine (c_new _).mono ?_); rintro e w4 ⟨rfl, rfl⟩)
        refine Arr.name_world _ (fun W hW => ?_)
        have g1 : Fresh W w3.heap.size := by rw [hW]; unfold Fresh; (with_reducible repeat (first | assumption | (refine p1 ?_; (first | omega | (simp <;> omega))) | (refine p2 ?_ ?_; focus (first | omega | (simp <;> omega))) | refine p3 ?_ | refine p4 ?_ | apply p5 | (refine p6 ?_ ?_; focus (first | omega | (simp <;> omega))) | apply p7 | (refine p8 ?_ ?_; focus (first | omega | (simp <;> omega))) | (refine p9 (by assumption) ?_ ?_; focus (first | omega | (simp <;> omega))) | (refine p10 (by assumption) ?_ ?_; focus (first | omega | (simp <;> omega)))))
        have g2 : Fresh W (w3.heap.size + 1) := by rw [hW]; unfold Fresh; (with_reducible repeat (first | assumption | (refine p1 ?_; (first | omega | (simp <;> omega))) | (refine p2 ?_ ?_; focus (first | omega | (simp <;> omega))) | refine p3 ?_ | refine p4 ?_ | apply p5 | (refine p6 ?_ ?_; focus (first | omega | (simp <;> omega))) | apply p7 | (refine p8 ?_ ?_; focus (first | omega | (simp <;> omega))) | (refine p9 (by assumption) ?_ ?_; focus (first | omega | (simp <;> omega))) | (refine p10 (by assumption) ?_ ?_; focus (first | omega | (simp <;> omega)))))
        have hB : Below w.heap.size w W := by rw [hW]; (with_reducible repeat (first | assumption | exact Below.refl _ _ | (refine b4 ?_ ?_; focus (first | omega | (simp <;> omega))) | refine b2 ?_ | refine Below.drew ?_ | (refine b5 ?_ ?_; focus (first | omega | (simp <;> omega))) | (refine b1 ?_ ?_; focus (first | omega | (simp <;> omega))) | (refine b3 (by assumption) ?_ ?_; focus (first | omega | (simp <;> omega))) | (refine b6 (by assumption) ?_ ?_; focus (first | omega | (simp <;> omega)))))
        have hs0 : w3.heap.size + 2 ≤ W.heap.size := by rw [hW]; simp
        have hg1 : 1 < w3.heap.size := by omega
        clear hW hB3
        obtain ⟨hh1, hhe⟩ : ∃ x, x = w3.heap.size := ⟨_, rfl⟩
        rw [← hhe] at g1 g2 hs0 hg1 hz0 ⊢
        clear hhe
        go_loopg [5, 6] ps.length (fun k v i wr => ∃ t : Nat, t + k = ps.length ∧ i = .int .i64 t ∧ Own wr (hh1 + 2) v (pre ps t) ∧ Hst wr hh1 (lf F) (pre ps t).length ∧ Hst wr (hh1 + 1) (lf F) (pre ps t).length ∧ Below w.heap.size w wr ∧ hh1 + 2 ≤ wr.heap.size)
        case atStart => exact ⟨0, by omega, rfl, Own.nil _ _, .inr ⟨rfl, g1⟩, .inr ⟨rfl, g2⟩, hB, hs0⟩
        case round =>
          clear g1 g2 hB hs0
          obtain ⟨t, ht, rfl, hO, hS1, hS2, hB, hs0⟩ := hrel
          have HT := hid ht
          have ht2 : t ≤ ps.length := by omega
          clear ht
          by_cases htl : t < ps.length
          · obtain ⟨b, o, hAe, hb, hcell⟩ := h (by omega)
            subst hAe
            obtain ⟨A', c, h1, h2, h3⟩ := hcell t htl
            have hbw : b < w.heap.size := hb
            have hc1 : wr.cell? ⟨b, o + t, none⟩ = some (.slice A' (ps.getD t []).length c) := (cell_below hB b _ hb).trans h1
            have hsr := h3.below hB (Nat.le_refl _)
            have hmF : ∀ i, i < (ps.getD t []).length → lf (ps.getD t []) i = lf F ((pre ps t).length + i) := fun i hi => by rw [HF.out]; exact lf_pre ps t i htl hi
            have hsrc1 := hsr.src (g := hh1) (by omega) (by omega) (f := fun i => lf F ((pre ps t).length + i)) hmF
            have hp1 : (pre ps t).length + (ps.getD t []).length ≤ F.length := by
              have := pre_le ps (t + 1)
              rw [pre_succ ps t htl, List.length_append, ← HF.out] at this; exact this
            have hpe := pre_succ ps t htl
            obtain ⟨m, hm⟩ : ∃ m, m = ps.getD t [] := ⟨_, rfl⟩
            rw [← hm] at hc1 hsrc1 hp1 h2 hsr hpe hmF
            obtain ⟨a, ha⟩ : ∃ a, a = (pre ps t).length := ⟨_, rfl⟩
            rw [← ha] at hS1 hS2 hsrc1 hp1 hmF
            have HMF := hid hmF
            have HPE := hid hpe
            have HA := hid ha
            clear hcell h1 h3 hm hpe ha hmF
            go_wp2_with fail
            refine (c_write hh1 (lf F) a m.length c A' wr (glob_below hG hB hlt) hg1 hS1 hsrc1 h2 (by omega)).mono ?_
            rintro e w5 ⟨rfl, hS5, hb5⟩
            have hz5 := hb5.size
            have hB5 : Below w.heap.size w w5 := b6 hb5 ⟨by omega, by omega⟩ hB
            have hS52 := hst_but hS2 hb5 (by omega)
            have hc5 : w5.cell? ⟨b, o + t, none⟩ = some (.slice A' m.length c) := (cell_but hb5 b _ (by omega) (by omega)).trans hc1
            have hsr5 : BSl w5 w.heap.size A' m := hsr.keep (fun b' o' hb' => cell_but hb5 b' o' (by omega) (by omega))
            have hO5 : Own w5 (hh1 + 2) u5 (pre ps t) := Own.but hO hb5 (by omega)
            have hsrc2 : Src w5 (hh1 + 1) A' m.length (fun i => lf F (a + i)) := hsr5.src (by omega) (by omega) HMF.out
            clear hc1 hsrc1 hO hS1 hS2 hB hb5 hsr
            go_wp2_with fail
            refine (c_write (hh1 + 1) (lf F) a m.length c A' w5 (glob_below hG hB5 hlt) (by omega) hS52 hsrc2 h2 (by omega)).mono ?_
            rintro e w6 ⟨rfl, hS6, hb6⟩
            have hz6 := hb6.size
            have hB6 : Below w.heap.size w w6 := b6 hb6 ⟨by omega, by omega⟩ hB5
            have hS61 : Hst w6 hh1 (lf F) (a + m.length) := hst_but (.inl hS5) hb6 (by omega)
            have hS62 : Hst w6 (hh1 + 1) (lf F) (a + m.length) := .inl hS6
            have hc6 : w6.cell? ⟨b, o + t, none⟩ = some (.slice A' m.length c) := (cell_but hb6 b _ (by omega) (by omega)).trans hc5
            have hsr6 : BSl w6 w.heap.size A' m := hsr5.keep (fun b' o' hb' => cell_but hb6 b' o' (by omega) (by omega))
            have hO6 : Own w6 (hh1 + 2) u5 (pre ps t) := Own.but hO5 hb6 (by omega)
            clear hc5 hO5 hS52 hB5 hb6 hsr5 hS5 hS6
            go_wp2_with ((at_builtin; refine arm_appB elem5 rfl (base := hh1 + 2) hO6 hsr6 (by rw [← HA.out]; omega) (by omega) ?_); refine ⟨rfl, rfl, _, rfl, ?_⟩; intro v7 w7 hO7 hb7; obtain ⟨A7, c7, rfl, hc7, hs7, _⟩ := hO7.form)
            obtain ⟨P, hP⟩ : ∃ P, P = pre ps t ++ m := ⟨_, rfl⟩
            rw [← hP] at hO7 hc7 hs7
            have hsum : (pre ps t).length + m.length = P.length := by rw [hP, List.length_append]
            rw [hsum]
            clear hsum
            have hPl : P.length = a + m.length := by rw [hP, List.length_append, ← HA.out]
            have hPl2 : P.length ≤ 5000 := by omega
            have hS71 : Hst w7 hh1 (lf F) (a + m.length) := hst_below hS61 hb7 (by omega)
            have hS72 : Hst w7 (hh1 + 1) (lf F) (a + m.length) := hst_below hS62 hb7 (by omega)
            have hz7 := hb7.size
            have hB7 : Below w.heap.size w w7 := hB6.trans (hb7.mono (by omega))
            have HP := hid hP
            obtain ⟨n, hn⟩ : ∃ n, n = P.length := ⟨_, rfl⟩
            rw [← hPl, ← hn] at hS71 hS72
            rw [← hn] at hPl2 hc7
            have c17 := c_refSum A7 P c7 w7.heap.size w7 (Nat.le_refl _) hs7 (by omega)
            obtain ⟨D, hD⟩ : ∃ D, D = shaL P := ⟨_, rfl⟩
            have hD2 : sha (lf F) n = D := by
              rw [hD]; unfold shaL; rw [← hn]
              refine sha_congr _ _ n (fun i hi => ?_)
              have hPp : P = pre ps (t + 1) := by rw [hP]; exact HPE.out.symm
              rw [HF.out, hPp]; exact lf_prefix ps (t + 1) i (by rw [← hPp, ← hn]; exact hi)
            rw [← hD] at c17
            rw [← hn] at c17 ⊢
            have HPN := hid hn
            have C17 := hid c17
            have HD2 := hid hD2
            clear c17 hD hD2 hP hPl hn hS61 hS62 hc6 hsr6 hO6 hB6 hs7
            refine (C17.out).mono ?_
            rintro e w8 ⟨rfl, hb8⟩
            have hz8 := hb8.size
            have hS81 := hst_below hS71 hb8 (by omega)
            have hS82 := hst_below hS72 hb8 (by omega)
            have hO8 : Own w8 (hh1 + 2) (.slice A7 P.length c7) P := Own.below hO7 hb8
            clear C17 hS71 hS72 hO7
            go_upto_region 13 with (((with_reducible refine Arr.arm_store row26 rfl ?_); refine ⟨rfl, _, _, _, _, rfl, rfl, by (with_reducible repeat (first | assumption | (refine p1 ?_; (first | omega | (simp <;> omega))) | (refine p2 ?_ ?_; focus (first | omega | (simp <;> omega))) | refine p3 ?_ | refine p4 ?_ | apply p5 | (refine p6 ?_ ?_; focus (first | omega | (simp <;> omega))) | apply p7 | (refine p8 ?_ ?_; focus (first | omega | (simp <;> omega))) | (refine p9 (by assumption) ?_ ?_; focus (first | omega | (simp <;> omega))) | (refine p10 (by assumption) ?_ ?_; focus (first | omega | (simp <;> omega))))), by (exact brow_size _ _), by (exact brow_size _ _), by (exact brow_one _ _), ?_⟩))
            refine name_world _ fun W0 hW0 => ?_
            have gD : W0.heap[w8.heap.size]? = some (.cells (brow 32 D) 26 (0, 0)) := by rw [hW0]; (with_reducible repeat (first | assumption | (refine p1 ?_; (first | omega | (simp <;> omega))) | (refine p2 ?_ ?_; focus (first | omega | (simp <;> omega))) | refine p3 ?_ | refine p4 ?_ | apply p5 | (refine p6 ?_ ?_; focus (first | omega | (simp <;> omega))) | apply p7 | (refine p8 ?_ ?_; focus (first | omega | (simp <;> omega))) | (refine p9 (by assumption) ?_ ?_; focus (first | omega | (simp <;> omega))) | (refine p10 (by assumption) ?_ ?_; focus (first | omega | (simp <;> omega)))))
            have hb0 : Below w8.heap.size w8 W0 := by rw [hW0]; (with_reducible repeat (first | assumption | exact Below.refl _ _ | (refine b4 ?_ ?_; focus (first | omega | (simp <;> omega))) | refine b2 ?_ | refine Below.drew ?_ | (refine b5 ?_ ?_; focus (first | omega | (simp <;> omega))) | (refine b1 ?_ ?_; focus (first | omega | (simp <;> omega))) | (refine b3 (by assumption) ?_ ?_; focus (first | omega | (simp <;> omega))) | (refine b6 (by assumption) ?_ ?_; focus (first | omega | (simp <;> omega)))))
            have hlD := lt_of gD
            have hS1 := hst_below hS81 hb0 (by omega)
            have hS2 := hst_below hS82 hb0 (by omega)
            have hO0 : Own W0 (hh1 + 2) (.slice A7 n c7) P := by
              have := Own.below hO8 hb0; rwa [← HPN.out] at this
            have hB0 : Below w.heap.size w W0 := hB7.trans ((hb8.mono (by omega)).trans (hb0.mono (by omega)))
            have hG0 := glob_below hG hB0 hlt
            have hlt0 := glob_lt hG0
            have hz00 := hB0.size
            clear hW0 hS81 hS82 hO8 hb0 hB7 hb8 hb7
            have C21 : Hid (∀ (W : World) (g : Nat), g < W0.heap.size → 1 < g → Hst W0 g (lf F) n → Below W0.heap.size W0 W → Calls Tryd.prog 21 #[.pointer (some ⟨g, 0, none⟩)] W fun e w' => e = .returned (.agg (brow 32 D)) ∧ Below W.heap.size W w') := by
              intro W g hg h1 hS hb
              rw [← HD2.out]
              exact c_sum (some ⟨g, 0, none⟩) (lf F) n W (glob_below hG0 hb hlt0) (.inr ⟨g, rfl, h1, hst_below hS hb hg⟩) (by omega)
            have hq := eq32_refl D
            have hg11 : hh1 < W0.heap.size := by omega
            have hg12 : hh1 + 1 < W0.heap.size := by omega
            have hg13 : 1 < hh1 + 1 := by omega
            have HS1 := hid hS1
            have HS2 := hid hS2
            have HO0 := hid hO0
            clear hS1 hS2 hO0
            refine Arr.held_begin (m := 15) (fun w' => Below W0.heap.size W0 w') (by kernel_rfl) rfl ?_
            refine Arr.held_move 0 rfl rfl rfl (by kernel_rfl) (by kernel_rfl) (by kernel_rfl) (fun _ _ _ _ h => h) (by (with_reducible repeat (first | assumption | exact Below.refl _ _ | (refine b4 ?_ ?_; focus (first | omega | (simp <;> omega))) | refine b2 ?_ | refine Below.drew ?_ | (refine b5 ?_ ?_; focus (first | omega | (simp <;> omega))) | (refine b1 ?_ ?_; focus (first | omega | (simp <;> omega))) | (refine b3 (by assumption) ?_ ?_; focus (first | omega | (simp <;> omega))) | (refine b6 (by assumption) ?_ ?_; focus (first | omega | (simp <;> omega)))))) ?_
            refine Arr.held_load 2 row26 rfl rfl rfl (by kernel_rfl) (by kernel_rfl) (by kernel_rfl) (fun _ _ _ _ h => h) (by (with_reducible repeat (first | assumption | exact Below.refl _ _ | (refine b4 ?_ ?_; focus (first | omega | (simp <;> omega))) | refine b2 ?_ | refine Below.drew ?_ | (refine b5 ?_ ?_; focus (first | omega | (simp <;> omega))) | (refine b1 ?_ ?_; focus (first | omega | (simp <;> omega))) | (refine b3 (by assumption) ?_ ?_; focus (first | omega | (simp <;> omega))) | (refine b6 (by assumption) ?_ ?_; focus (first | omega | (simp <;> omega)))))) ⟨_, _, rfl, fun w h => ⟨_, _, hp_below h (lt_of gD) gD⟩, by (exact brow_size _ _), ?_⟩
            simp only [Act.put, Act.eval, List.setIfInBounds_toArray, List.set_cons_zero, List.set_cons_succ, Array.getD_eq_getD_getElem?, List.getElem?_toArray, List.getElem?_cons_zero, List.getElem?_cons_succ, Option.getD_some]
            (refine Arr.held_step [1] (by kernel_rfl) (by simp) ?_; refine List.forall_mem_cons.2 ⟨⟨_, rfl, ?_⟩, fun _ h => absurd h List.not_mem_nil⟩; go_wp2_with ((go_at_call 21; (with_reducible refine (C21.out _ hh1 hg11 hg1 HS1.out (by (with_reducible repeat (first | assumption | exact Below.refl _ _ | (refine b4 ?_ ?_; focus (first | omega | (simp <;> omega))) | refine b2 ?_ | refine Below.drew ?_ | (refine b5 ?_ ?_; focus (first | omega | (simp <;> omega))) | (refine b1 ?_ ?_; focus (first | omega | (simp <;> omega))) | (refine b3 (by assumption) ?_ ?_; focus (first | omega | (simp <;> omega))) | (refine b6 (by assumption) ?_ ?_; focus (first | omega | (simp <;> omega))))))).mono ?_); rintro e w9 ⟨rfl, hb9⟩; have hz9 : W0.heap.size ≤ w9.heap.size := hb9.size)); refine ⟨by (with_reducible repeat (first | assumption | exact Below.refl _ _ | (refine b4 ?_ ?_; focus (first | omega | (simp <;> omega))) | refine b2 ?_ | refine Below.drew ?_ | (refine b5 ?_ ?_; focus (first | omega | (simp <;> omega))) | (refine b1 ?_ ?_; focus (first | omega | (simp <;> omega))) | (refine b3 (by assumption) ?_ ?_; focus (first | omega | (simp <;> omega))) | (refine b6 (by assumption) ?_ ?_; focus (first | omega | (simp <;> omega))))), ?_⟩)
            (refine Arr.held_step [3] (by kernel_rfl) (by simp) ?_; refine List.forall_mem_cons.2 ⟨⟨_, rfl, ?_⟩, fun _ h => absurd h List.not_mem_nil⟩; go_wp2_with (fail); refine ⟨by (with_reducible repeat (first | assumption | exact Below.refl _ _ | (refine b4 ?_ ?_; focus (first | omega | (simp <;> omega))) | refine b2 ?_ | refine Below.drew ?_ | (refine b5 ?_ ?_; focus (first | omega | (simp <;> omega))) | (refine b1 ?_ ?_; focus (first | omega | (simp <;> omega))) | (refine b3 (by assumption) ?_ ?_; focus (first | omega | (simp <;> omega))) | (refine b6 (by assumption) ?_ ?_; focus (first | omega | (simp <;> omega))))), ?_⟩)
            (refine Arr.held_step [4] (by kernel_rfl) (by simp) ?_; refine List.forall_mem_cons.2 ⟨⟨_, rfl, ?_⟩, fun _ h => absurd h List.not_mem_nil⟩; go_wp2_with (fail); refine ⟨by (with_reducible repeat (first | assumption | exact Below.refl _ _ | (refine b4 ?_ ?_; focus (first | omega | (simp <;> omega))) | refine b2 ?_ | refine Below.drew ?_ | (refine b5 ?_ ?_; focus (first | omega | (simp <;> omega))) | (refine b1 ?_ ?_; focus (first | omega | (simp <;> omega))) | (refine b3 (by assumption) ?_ ?_; focus (first | omega | (simp <;> omega))) | (refine b6 (by assumption) ?_ ?_; focus (first | omega | (simp <;> omega))))), ?_⟩)
            refine Held.loadg 6 row26 rfl rfl rfl (by kernel_rfl) (by kernel_rfl) (by kernel_rfl) (fun _ _ _ _ h => h) (by (with_reducible repeat (first | assumption | exact Below.refl _ _ | (refine b4 ?_ ?_; focus (first | omega | (simp <;> omega))) | refine b2 ?_ | refine Below.drew ?_ | (refine b5 ?_ ?_; focus (first | omega | (simp <;> omega))) | (refine b1 ?_ ?_; focus (first | omega | (simp <;> omega))) | (refine b3 (by assumption) ?_ ?_; focus (first | omega | (simp <;> omega))) | (refine b6 (by assumption) ?_ ?_; focus (first | omega | (simp <;> omega)))))) ⟨_, _, rfl, fun w h => ⟨_, _, hp_below h (lt_of gD) gD⟩, by (exact brow_size _ _), ?_⟩
            simp only [Act.put, Act.eval, List.setIfInBounds_toArray, List.set_cons_zero, List.set_cons_succ, Array.getD_eq_getD_getElem?, List.getElem?_toArray, List.getElem?_cons_zero, List.getElem?_cons_succ, Option.getD_some]
            (refine Arr.held_step [5] (by kernel_rfl) (by simp) ?_; refine List.forall_mem_cons.2 ⟨⟨_, rfl, ?_⟩, fun _ h => absurd h List.not_mem_nil⟩; go_wp2_with ((go_at_call 21; (with_reducible refine (C21.out _ (hh1 + 1) hg12 hg13 HS2.out (by (with_reducible repeat (first | assumption | exact Below.refl _ _ | (refine b4 ?_ ?_; focus (first | omega | (simp <;> omega))) | refine b2 ?_ | refine Below.drew ?_ | (refine b5 ?_ ?_; focus (first | omega | (simp <;> omega))) | (refine b1 ?_ ?_; focus (first | omega | (simp <;> omega))) | (refine b3 (by assumption) ?_ ?_; focus (first | omega | (simp <;> omega))) | (refine b6 (by assumption) ?_ ?_; focus (first | omega | (simp <;> omega))))))).mono ?_); rintro e w10 ⟨rfl, hb10⟩; have hz10 := hb10.size)); refine ⟨by (with_reducible repeat (first | assumption | exact Below.refl _ _ | (refine b4 ?_ ?_; focus (first | omega | (simp <;> omega))) | refine b2 ?_ | refine Below.drew ?_ | (refine b5 ?_ ?_; focus (first | omega | (simp <;> omega))) | (refine b1 ?_ ?_; focus (first | omega | (simp <;> omega))) | (refine b3 (by assumption) ?_ ?_; focus (first | omega | (simp <;> omega))) | (refine b6 (by assumption) ?_ ?_; focus (first | omega | (simp <;> omega))))), ?_⟩)
            (refine Arr.held_step [7] (by kernel_rfl) (by simp) ?_; refine List.forall_mem_cons.2 ⟨⟨_, rfl, ?_⟩, fun _ h => absurd h List.not_mem_nil⟩; go_wp2_with (fail); refine ⟨by (with_reducible repeat (first | assumption | exact Below.refl _ _ | (refine b4 ?_ ?_; focus (first | omega | (simp <;> omega))) | refine b2 ?_ | refine Below.drew ?_ | (refine b5 ?_ ?_; focus (first | omega | (simp <;> omega))) | (refine b1 ?_ ?_; focus (first | omega | (simp <;> omega))) | (refine b3 (by assumption) ?_ ?_; focus (first | omega | (simp <;> omega))) | (refine b6 (by assumption) ?_ ?_; focus (first | omega | (simp <;> omega))))), ?_⟩)
            (refine Arr.held_step [8] (by kernel_rfl) (by simp) ?_; refine List.forall_mem_cons.2 ⟨⟨_, rfl, ?_⟩, fun _ h => absurd h List.not_mem_nil⟩; go_wp2_with (fail); refine ⟨by (with_reducible repeat (first | assumption | exact Below.refl _ _ | (refine b4 ?_ ?_; focus (first | omega | (simp <;> omega))) | refine b2 ?_ | refine Below.drew ?_ | (refine b5 ?_ ?_; focus (first | omega | (simp <;> omega))) | (refine b1 ?_ ?_; focus (first | omega | (simp <;> omega))) | (refine b3 (by assumption) ?_ ?_; focus (first | omega | (simp <;> omega))) | (refine b6 (by assumption) ?_ ?_; focus (first | omega | (simp <;> omega))))), ?_⟩)
            (refine Arr.held_step [9] (by kernel_rfl) (by simp) ?_; refine List.forall_mem_cons.2 ⟨⟨_, rfl, ?_⟩, fun _ h => absurd h List.not_mem_nil⟩; go_wp2_with (fail); refine ⟨by (with_reducible repeat (first | assumption | exact Below.refl _ _ | (refine b4 ?_ ?_; focus (first | omega | (simp <;> omega))) | refine b2 ?_ | refine Below.drew ?_ | (refine b5 ?_ ?_; focus (first | omega | (simp <;> omega))) | (refine b1 ?_ ?_; focus (first | omega | (simp <;> omega))) | (refine b3 (by assumption) ?_ ?_; focus (first | omega | (simp <;> omega))) | (refine b6 (by assumption) ?_ ?_; focus (first | omega | (simp <;> omega))))), ?_⟩)
            refine Held.moveg 10 rfl rfl rfl (by kernel_rfl) (by kernel_rfl) (by kernel_rfl) (fun _ _ _ _ h => h) (by (with_reducible repeat (first | assumption | exact Below.refl _ _ | (refine b4 ?_ ?_; focus (first | omega | (simp <;> omega))) | refine b2 ?_ | refine Below.drew ?_ | (refine b5 ?_ ?_; focus (first | omega | (simp <;> omega))) | (refine b1 ?_ ?_; focus (first | omega | (simp <;> omega))) | (refine b3 (by assumption) ?_ ?_; focus (first | omega | (simp <;> omega))) | (refine b6 (by assumption) ?_ ?_; focus (first | omega | (simp <;> omega)))))) ?_
            refine Held.loadg 12 row26 rfl rfl rfl (by kernel_rfl) (by kernel_rfl) (by kernel_rfl) (fun _ _ _ _ h => h) (by (with_reducible repeat (first | assumption | exact Below.refl _ _ | (refine b4 ?_ ?_; focus (first | omega | (simp <;> omega))) | refine b2 ?_ | refine Below.drew ?_ | (refine b5 ?_ ?_; focus (first | omega | (simp <;> omega))) | (refine b1 ?_ ?_; focus (first | omega | (simp <;> omega))) | (refine b3 (by assumption) ?_ ?_; focus (first | omega | (simp <;> omega))) | (refine b6 (by assumption) ?_ ?_; focus (first | omega | (simp <;> omega)))))) ⟨_, _, rfl, fun w h => ⟨_, _, hp_below h (lt_of gD) gD⟩, by (exact brow_size _ _), ?_⟩
            simp only [Act.put, Act.eval, List.setIfInBounds_toArray, List.set_cons_zero, List.set_cons_succ, Array.getD_eq_getD_getElem?, List.getElem?_toArray, List.getElem?_cons_zero, List.getElem?_cons_succ, Option.getD_some]
            (refine Arr.held_step [11] (by kernel_rfl) (by simp) ?_; refine List.forall_mem_cons.2 ⟨⟨_, rfl, ?_⟩, fun _ h => absurd h List.not_mem_nil⟩; go_wp2_with ((go_at_call 21; (with_reducible refine (C21.out _ hh1 hg11 hg1 HS1.out (by (with_reducible repeat (first | assumption | exact Below.refl _ _ | (refine b4 ?_ ?_; focus (first | omega | (simp <;> omega))) | refine b2 ?_ | refine Below.drew ?_ | (refine b5 ?_ ?_; focus (first | omega | (simp <;> omega))) | (refine b1 ?_ ?_; focus (first | omega | (simp <;> omega))) | (refine b3 (by assumption) ?_ ?_; focus (first | omega | (simp <;> omega))) | (refine b6 (by assumption) ?_ ?_; focus (first | omega | (simp <;> omega))))))).mono ?_); rintro e w11 ⟨rfl, hb11⟩; have hz11 := hb11.size)); refine ⟨by (with_reducible repeat (first | assumption | exact Below.refl _ _ | (refine b4 ?_ ?_; focus (first | omega | (simp <;> omega))) | refine b2 ?_ | refine Below.drew ?_ | (refine b5 ?_ ?_; focus (first | omega | (simp <;> omega))) | (refine b1 ?_ ?_; focus (first | omega | (simp <;> omega))) | (refine b3 (by assumption) ?_ ?_; focus (first | omega | (simp <;> omega))) | (refine b6 (by assumption) ?_ ?_; focus (first | omega | (simp <;> omega))))), ?_⟩)
            (refine Arr.held_step [13] (by kernel_rfl) (by simp) ?_; refine List.forall_mem_cons.2 ⟨⟨_, rfl, ?_⟩, fun _ h => absurd h List.not_mem_nil⟩; go_wp2_with (fail); refine ⟨by (with_reducible repeat (first | assumption | exact Below.refl _ _ | (refine b4 ?_ ?_; focus (first | omega | (simp <;> omega))) | refine b2 ?_ | refine Below.drew ?_ | (refine b5 ?_ ?_; focus (first | omega | (simp <;> omega))) | (refine b1 ?_ ?_; focus (first | omega | (simp <;> omega))) | (refine b3 (by assumption) ?_ ?_; focus (first | omega | (simp <;> omega))) | (refine b6 (by assumption) ?_ ?_; focus (first | omega | (simp <;> omega))))), ?_⟩)
            (refine Arr.held_step [14] (by kernel_rfl) (by simp) ?_; refine List.forall_mem_cons.2 ⟨⟨_, rfl, ?_⟩, fun _ h => absurd h List.not_mem_nil⟩; go_wp2_with (fail); refine ⟨by (with_reducible repeat (first | assumption | exact Below.refl _ _ | (refine b4 ?_ ?_; focus (first | omega | (simp <;> omega))) | refine b2 ?_ | refine Below.drew ?_ | (refine b5 ?_ ?_; focus (first | omega | (simp <;> omega))) | (refine b1 ?_ ?_; focus (first | omega | (simp <;> omega))) | (refine b3 (by assumption) ?_ ?_; focus (first | omega | (simp <;> omega))) | (refine b6 (by assumption) ?_ ?_; focus (first | omega | (simp <;> omega))))), ?_⟩)
            refine wpAnyH_done (by kernel_rfl) ?_ _
            have hBe : Below W0.heap.size W0 w11 := by (with_reducible repeat (first | assumption | exact Below.refl _ _ | (refine b4 ?_ ?_; focus (first | omega | (simp <;> omega))) | refine b2 ?_ | refine Below.drew ?_ | (refine b5 ?_ ?_; focus (first | omega | (simp <;> omega))) | (refine b1 ?_ ?_; focus (first | omega | (simp <;> omega))) | (refine b3 (by assumption) ?_ ?_; focus (first | omega | (simp <;> omega))) | (refine b6 (by assumption) ?_ ?_; focus (first | omega | (simp <;> omega)))))
            go_wp2
            go_roundg (ps.length - (t + 1))
            case measure => have := HT.out; omega
            case rel =>
              have hlen : (pre ps (t + 1)).length = n := by rw [HPE.out, HPN.out, HP.out]
              refine ⟨t + 1, by omega, by go_num, ?_, ?_, ?_, hB0.trans (hBe.mono (by omega)), by omega⟩
              · have e : pre ps (t + 1) = P := by rw [HPE.out, HP.out]
                rw [e]; exact Own.below HO0.out hBe
              · rw [hlen]; exact hst_below HS1.out hBe hg11
              · rw [hlen]; exact hst_below HS2.out hBe hg12
          · have e : t = ps.length := by omega
            subst e
            go_wp2_with fail
            go_ret
            exact ⟨rfl, by (with_reducible repeat (first | assumption | exact Below.refl _ _ | (refine b4 ?_ ?_; focus (first | omega | (simp <;> omega))) | refine b2 ?_ | refine Below.drew ?_ | (refine b5 ?_ ?_; focus (first | omega | (simp <;> omega))) | (refine b1 ?_ ?_; focus (first | omega | (simp <;> omega))) | (refine b3 (by assumption) ?_ ?_; focus (first | omega | (simp <;> omega))) | (refine b6 (by assumption) ?_ ?_; focus (first | omega | (simp <;> omega)))))⟩
theorem w_shaWrites (W : World) (hG : Glob W) (A : Option Addr) (ps : List Bytes8) (cap : Nat) (hc : ps.length ≤ cap) (h : PSl W W.heap.size A ps) (hl : ps.length < 10000000000000) (hll : ∀ k, k < ps.length → (ps.getD k []).length < 1000000000000000) :
    Calls Tryd.prog 4 #[.slice A ps.length cap] W fun e w' => e = .returned (.bool true) ∧ Below W.heap.size W w' := c_shaWrites A ps cap W hG h hl hll
end Go.Proofs.YtfkeaglbfembnaaDoor.Sha16
