/- The proof of a text, as the reference makes it; texts of a size that is looked at. -/
import Derived.WalkKit
import Derived.StillTactics
import Derived.Outline
import Derived.Deep.DeepCutAuto
import Derived.Deep.CutBlock
import Derived.Deep.DeepMust
import Derived.Test.YtfkeaglbfembnaaDoorMk17
namespace Go.Proofs.YtfkeaglbfembnaaDoor.Mk18
open Go Go.RowKit Go.Proofs.YtfkeaglbfembnaaDoor.Arr Go.Proofs.YtfkeaglbfembnaaDoor.Mid Go.Proofs.YtfkeaglbfembnaaDoor.App Go.Proofs.YtfkeaglbfembnaaDoor.Sha1 Go.Proofs.YtfkeaglbfembnaaDoor.Sha2 Go.Proofs.YtfkeaglbfembnaaDoor.Sha4 Go.Proofs.YtfkeaglbfembnaaDoor.Sha5 Go.Proofs.YtfkeaglbfembnaaDoor.Sha6 Go.Proofs.YtfkeaglbfembnaaDoor.Sha7 Go.Proofs.YtfkeaglbfembnaaDoor.Sha8 Go.Proofs.YtfkeaglbfembnaaDoor.Sha9 Go.Proofs.YtfkeaglbfembnaaDoor.Sha10 Go.Proofs.YtfkeaglbfembnaaDoor.Sha12 Go.Proofs.YtfkeaglbfembnaaDoor.Sha13 Go.Proofs.YtfkeaglbfembnaaDoor.Sha17 Go.Proofs.YtfkeaglbfembnaaDoor.Mk1 Go.Proofs.YtfkeaglbfembnaaDoor.Mk2 Go.Proofs.YtfkeaglbfembnaaDoor.Mk3 Go.Proofs.YtfkeaglbfembnaaDoor.Mk4 Go.Proofs.YtfkeaglbfembnaaDoor.Mk5 Go.Proofs.YtfkeaglbfembnaaDoor.Mk6 Go.Proofs.YtfkeaglbfembnaaDoor.Mk7 Go.Proofs.YtfkeaglbfembnaaDoor.Mk8 Go.Proofs.YtfkeaglbfembnaaDoor.Mk9 Go.Proofs.YtfkeaglbfembnaaDoor.Mk13 Go.Proofs.YtfkeaglbfembnaaDoor.Mk15 Go.Proofs.YtfkeaglbfembnaaDoor.Mk16 Go.Proofs.YtfkeaglbfembnaaDoor.Mk17
set_option maxRecDepth 100000
set_option linter.unusedVariables false
set_option linter.unusedSimpArgs false
theorem OwnD.base {w : World} {base base' m : Nat} {v : Value} {f : Nat → Dig} (h : OwnD w base v m f) (hb : base' ≤ base) : OwnD w base' v m f := by
  refine ⟨h.1, ?_⟩
  rcases h.2 with h | ⟨g, cap, cur, e, hg, h⟩
  · exact .inl h
  · exact .inr ⟨g, cap, cur, e, Nat.le_trans hb hg, h⟩
set_option maxHeartbeats 400000 in
theorem c_refProof_out (i : Int) (A : Option Addr) (n cap : Nat) (w : World) (h : i < 0 ∨ (n : Int) ≤ i) : Calls Tryd.prog 33 #[.int .i64 i, .slice A n cap] w fun e w' => e = .returned (.tuple #[.slice none 0 0, .int .i64 2]) ∧ w = w' := by
  by_cases h1 : i < 0
  · have d1 : decide (i < 0) = true := decide_eq_true h1
    go_enter Tryd.func33, Tryd.ntmps33
    go_wp2_with fail
    go_ret2
    exact ⟨rfl, rfl⟩
  · have d1 : decide (i < 0) = false := decide_eq_false h1
    have d2 : decide ((n : Int) ≤ i) = true := by rw [decide_eq_true_iff]; omega
    go_enter Tryd.func33, Tryd.ntmps33
    go_wp2_with fail
    go_ret2
    exact ⟨rfl, rfl⟩
set_option maxHeartbeats 1000000 in
theorem c_refProof : ∀ (n : Nat) (ps : List Bytes8) (I cap B : Nat) (A : Option Addr) (w : World), ps.length = n → I < n → Glob w → n ≤ cap → n < 1000000 → B ≤ w.heap.size → PSl w B A ps → (∀ j, j < n → (ps.getD j []).length < 1000000000000) →
    Calls Tryd.prog 33 #[.int .i64 I, .slice A n cap] w (RetPrf w (prfL ps I)) := by
  intro n
  induction n using Nat.strongRecOn with
  | _ n ih =>
    intro ps I cap B A w hn hI hG hc hn2 hB h hlen
    have hlt := glob_lt hG
    have d1 : decide ((I : Int) < 0) = false := by rw [decide_eq_false_iff_not]; omega
    have d2 : decide ((n : Int) ≤ (I : Int)) = false := by rw [decide_eq_false_iff_not]; omega
    have d2n : decide (n ≤ I) = false := by rw [decide_eq_false_iff_not]; omega
    obtain ⟨b, o, rfl, hb, _⟩ := h (by omega)
    by_cases h1 : n = 1
    · subst h1
      rw [prfL_few ps I (by omega)]
      clear ih hlen hn
      go_enter Tryd.func33, Tryd.ntmps33
      go_wp2_with fail
      go_ret2
      exact ⟨_, rfl, OwnD.nil _ _ _, Below.refl _ _⟩
    · have d3 : ((n : Int) == 1) = false := by rw [beq_eq_false_iff_ne]; omega
      have hpl := prfL_len n ps I hn
      have hsl := steps_len n I
      have hhl := hf_lt n (by omega)
      have hhp := hf_pos n
      have C50 := fun W => c_refHalf n (by omega) (by omega) W
      obtain ⟨K, hK⟩ : ∃ K, K = hf n := ⟨_, rfl⟩
      rw [← hK] at hhl hhp C50
      have CH := hid C50
      clear C50
      have hs1 := slice22h b o n cap K (by omega)
      have hs2 := slice22l b o n cap K (by omega) (by omega)
      by_cases hk : I < K
      · have d4 : decide ((I : Int) < (K : Int)) = true := by rw [decide_eq_true_iff]; omega
        have d4n : decide (I < K) = true := by rw [decide_eq_true_iff]; omega
        have e := prfL_left ps I (by omega) (by rw [hn, ← hK]; exact hk)
        rw [hn, ← hK] at e
        rw [e] at hpl ⊢
        obtain ⟨D, hD⟩ : ∃ D, D = rootL (ps.drop K) := ⟨_, rfl⟩
        obtain ⟨L, hL⟩ : ∃ L, L = prfL (ps.take K) I := ⟨_, rfl⟩
        rw [← hD, ← hL] at hpl ⊢
        have hll : L.length ≤ 1000000 - 1 := by rw [List.length_append] at hpl; simp at hpl; omega
        have C33 : Hid (∀ W : World, Below w.heap.size w W → Calls Tryd.prog 33 #[.int .i64 I, .slice (some ⟨b, o, none⟩) K cap] W (RetPrf W L)) := by
          intro W hW; rw [hL]
          refine ih K hhl (ps.take K) I cap B (some ⟨b, o, none⟩) W (by rw [List.length_take]; omega) hk (glob_below hG hW hlt) (by omega) (by omega) (Nat.le_trans hB hW.size) (PSl.take (h.below hW hB) (by omega)) ?_
          intro j hj
          rw [List.getD_eq_getElem?_getD, List.getElem?_take, if_pos hj, ← List.getD_eq_getElem?_getD]; exact hlen j (by omega)
        have C35 : Hid (∀ W : World, Below w.heap.size w W → Calls Tryd.prog 35 #[.slice (some ⟨b, o + K, none⟩) (n - K) (cap - K)] W fun e w' => e = .returned (.agg (brow 32 D)) ∧ Below W.heap.size W w') := by
          intro W hW; rw [hD]
          refine c_refRoot (n - K) (ps.drop K) (some ⟨b, o + K, none⟩) (cap - K) B W (by rw [List.length_drop, hn]) (glob_below hG hW hlt) (by omega) (by omega) (Nat.le_trans hB hW.size) (PSl.drop (h.below hW hB) (by omega)) ?_
          intro j hj
          rw [List.getD_eq_getElem?_getD, List.getElem?_drop, ← List.getD_eq_getElem?_getD]; exact hlen (K + j) (by omega)
        clear hD hL hpl hsl e ih hlen h hK hn
        go_enter Tryd.func33, Tryd.ntmps33
        go_wp2_with (first | (go_at_call 51; (with_reducible refine (CH.out _).mono ?_); rintro e w1 ⟨rfl, rfl⟩) | (go_at_call 33; (with_reducible refine (C33.out _ (by (with_reducible repeat (first | assumption | exact Below.refl _ _ | (refine b4 ?_ ?_; focus (first | omega | (simp <;> omega))) | refine b2 ?_ | refine Below.drew ?_ | (refine b5 ?_ ?_; focus (first | omega | (simp <;> omega))) | (refine b1 ?_ ?_; focus (first | omega | (simp <;> omega))) | (refine b3 (by assumption) ?_ ?_; focus (first | omega | (simp <;> omega))) | (refine b6 (by assumption) ?_ ?_; focus (first | omega | (simp <;> omega))))))).mono ?_); rintro e w1 ⟨v1, rfl, hO1, hb1⟩; obtain ⟨A1, c1, rfl, hc1, _⟩ := OwnD.form hO1; have hz1 := hb1.size) | (go_at_call 35; (with_reducible refine (C35.out _ (by (with_reducible repeat (first | assumption | exact Below.refl _ _ | (refine b4 ?_ ?_; focus (first | omega | (simp <;> omega))) | refine b2 ?_ | refine Below.drew ?_ | (refine b5 ?_ ?_; focus (first | omega | (simp <;> omega))) | (refine b1 ?_ ?_; focus (first | omega | (simp <;> omega))) | (refine b3 (by assumption) ?_ ?_; focus (first | omega | (simp <;> omega))) | (refine b6 (by assumption) ?_ ?_; focus (first | omega | (simp <;> omega))))))).mono ?_); rintro e w5 ⟨rfl, hb5⟩; have hz5 := hb5.size) | ((with_reducible refine arm_bslice1 elem26 (by omega) rfl ?_); refine ⟨rfl, brow 32 D, rfl, brow_size _ _, ?_⟩) | (at_builtin; go_must (refine arm_appD elem26 rfl (d := D) (base := w.heap.size) (OwnD.alloc (OwnD.below hO1 hb5) _) (heap_alloc_new _ _) (by omega) (by simp; omega) ?_); refine ⟨rfl, rfl, _, rfl, ?_⟩; intro v2 w2 hO2 hb2))
        go_ret2
        refine ⟨_, rfl, ?_, by (with_reducible repeat (first | assumption | exact Below.refl _ _ | (refine b4 ?_ ?_; focus (first | omega | (simp <;> omega))) | refine b2 ?_ | refine Below.drew ?_ | (refine b5 ?_ ?_; focus (first | omega | (simp <;> omega))) | (refine b1 ?_ ?_; focus (first | omega | (simp <;> omega))) | (refine b3 (by assumption) ?_ ?_; focus (first | omega | (simp <;> omega))) | (refine b6 (by assumption) ?_ ?_; focus (first | omega | (simp <;> omega)))))⟩
        rw [List.length_append, List.length_singleton]; exact OwnD.congr hO2 (fun k hk => dF_add L D k hk)
      · have d4 : decide ((I : Int) < (K : Int)) = false := by rw [decide_eq_false_iff_not]; omega
        have d4n : decide (I < K) = false := by rw [decide_eq_false_iff_not]; omega
        have e := prfL_right ps I (by omega) (by rw [hn, ← hK]; exact hk)
        rw [hn, ← hK] at e
        rw [e] at hpl ⊢
        obtain ⟨J, hJ⟩ : ∃ J, J = I - K := ⟨_, rfl⟩
        have l2 : IntKind.i64.wrap ((I : Int) - (K : Int)) = (J : Int) := by rw [show (I : Int) - (K : Int) = (J : Int) by omega]; exact wrap64 _ (by omega) (by omega)
        rw [← hJ] at hpl ⊢
        obtain ⟨D, hD⟩ : ∃ D, D = rootL (ps.take K) := ⟨_, rfl⟩
        obtain ⟨L, hL⟩ : ∃ L, L = prfL (ps.drop K) J := ⟨_, rfl⟩
        rw [← hD, ← hL] at hpl ⊢
        have hll : L.length ≤ 1000000 - 1 := by rw [List.length_append] at hpl; simp at hpl; omega
        have C33 : Hid (∀ W : World, Below w.heap.size w W → Calls Tryd.prog 33 #[.int .i64 J, .slice (some ⟨b, o + K, none⟩) (n - K) (cap - K)] W (RetPrf W L)) := by
          intro W hW; rw [hL]
          refine ih (n - K) (by omega) (ps.drop K) J (cap - K) B (some ⟨b, o + K, none⟩) W (by rw [List.length_drop, hn]) (by omega) (glob_below hG hW hlt) (by omega) (by omega) (Nat.le_trans hB hW.size) (PSl.drop (h.below hW hB) (by omega)) ?_
          intro j hj
          rw [List.getD_eq_getElem?_getD, List.getElem?_drop, ← List.getD_eq_getElem?_getD]; exact hlen (K + j) (by omega)
        have C35 : Hid (∀ W : World, Below w.heap.size w W → Calls Tryd.prog 35 #[.slice (some ⟨b, o, none⟩) K cap] W fun e w' => e = .returned (.agg (brow 32 D)) ∧ Below W.heap.size W w') := by
          intro W hW; rw [hD]
          refine c_refRoot K (ps.take K) (some ⟨b, o, none⟩) cap B W (by rw [List.length_take]; omega) (glob_below hG hW hlt) (by omega) (by omega) (Nat.le_trans hB hW.size) (PSl.take (h.below hW hB) (by omega)) ?_
          intro j hj
          rw [List.getD_eq_getElem?_getD, List.getElem?_take, if_pos hj, ← List.getD_eq_getElem?_getD]; exact hlen j (by omega)
        clear hD hL hpl hsl e ih hlen h hK hJ hn
        go_enter Tryd.func33, Tryd.ntmps33
        go_wp2_with (first | (go_at_call 51; (with_reducible refine (CH.out _).mono ?_); rintro e w1 ⟨rfl, rfl⟩) | (go_at_call 33; (with_reducible refine (C33.out _ (by (with_reducible repeat (first | assumption | exact Below.refl _ _ | (refine b4 ?_ ?_; focus (first | omega | (simp <;> omega))) | refine b2 ?_ | refine Below.drew ?_ | (refine b5 ?_ ?_; focus (first | omega | (simp <;> omega))) | (refine b1 ?_ ?_; focus (first | omega | (simp <;> omega))) | (refine b3 (by assumption) ?_ ?_; focus (first | omega | (simp <;> omega))) | (refine b6 (by assumption) ?_ ?_; focus (first | omega | (simp <;> omega))))))).mono ?_); rintro e w1 ⟨v1, rfl, hO1, hb1⟩; obtain ⟨A1, c1, rfl, hc1, _⟩ := OwnD.form hO1; have hz1 := hb1.size) | (go_at_call 35; (with_reducible refine (C35.out _ (by (with_reducible repeat (first | assumption | exact Below.refl _ _ | (refine b4 ?_ ?_; focus (first | omega | (simp <;> omega))) | refine b2 ?_ | refine Below.drew ?_ | (refine b5 ?_ ?_; focus (first | omega | (simp <;> omega))) | (refine b1 ?_ ?_; focus (first | omega | (simp <;> omega))) | (refine b3 (by assumption) ?_ ?_; focus (first | omega | (simp <;> omega))) | (refine b6 (by assumption) ?_ ?_; focus (first | omega | (simp <;> omega))))))).mono ?_); rintro e w5 ⟨rfl, hb5⟩; have hz5 := hb5.size) | ((with_reducible refine arm_bslice1 elem26 (by omega) rfl ?_); refine ⟨rfl, brow 32 D, rfl, brow_size _ _, ?_⟩) | (at_builtin; go_must (refine arm_appD elem26 rfl (d := D) (base := w.heap.size) (OwnD.alloc (OwnD.below hO1 hb5) _) (heap_alloc_new _ _) (by omega) (by simp; omega) ?_); refine ⟨rfl, rfl, _, rfl, ?_⟩; intro v2 w2 hO2 hb2))
        go_ret2
        refine ⟨_, rfl, ?_, by (with_reducible repeat (first | assumption | exact Below.refl _ _ | (refine b4 ?_ ?_; focus (first | omega | (simp <;> omega))) | refine b2 ?_ | refine Below.drew ?_ | (refine b5 ?_ ?_; focus (first | omega | (simp <;> omega))) | (refine b1 ?_ ?_; focus (first | omega | (simp <;> omega))) | (refine b3 (by assumption) ?_ ?_; focus (first | omega | (simp <;> omega))) | (refine b6 (by assumption) ?_ ?_; focus (first | omega | (simp <;> omega)))))⟩
        rw [List.length_append, List.length_singleton]; exact OwnD.congr hO2 (fun k hk => dF_add L D k hk)
/-- A bool; if it is true, the texts are few. -/
def FewT (ps : List Bytes8) (w : World) (e : Ending) (w' : World) : Prop := ∃ b : Bool, e = .returned (.bool b) ∧ (b = true → ps.length ≤ 250 ∧ ∀ j, j < ps.length → (ps.getD j []).length ≤ 5000) ∧ w = w'
set_option maxHeartbeats 400000 in
theorem c_few15 (A : Option Addr) (ps : List Bytes8) (cap B : Nat) (w : World) (h : PSl w B A ps) (hl : ps.length < 10000000000000) (hll : ∀ k, k < ps.length → (ps.getD k []).length < 1000000000000000) :
    Calls Tryd.prog 31 #[.slice A ps.length cap] w (FewT ps w) := by
  go_enter Tryd.func31, Tryd.ntmps31
  go_wp2_with fail
  go_loopg [3, 4] ps.length (fun k x i wr => ∃ t n : Nat, t + k = ps.length ∧ i = .int .i64 t ∧ x = .int .i64 n ∧ n ≤ 20000 ∧ Hid ((20 * t ≤ n ∧ ∀ j, j < t → (ps.getD j []).length ≤ 5000) ∨ 5000 < n) ∧ w = wr)
  case atStart => exact ⟨0, 0, by omega, rfl, rfl, by omega, .inl ⟨by omega, fun j hj => absurd hj (by omega)⟩, rfl⟩
  case round =>
    obtain ⟨t, n, ht, rfl, rfl, hn, HO, rfl⟩ := hrel
    have HT := hid ht
    have ht2 : t ≤ ps.length := by omega
    clear ht
    by_cases htl : t < ps.length
    · have d1 : decide ((t : Int) < (ps.length : Int)) = true := by simp; omega
      have d1n : decide (t < ps.length) = true := by simp; omega
      by_cases hbig : n ≤ 5000
      · obtain ⟨b, o, rfl, hb, hc⟩ := h (by omega)
        obtain ⟨A', c, h1, h2, h3⟩ := hc t htl
        have hlt := hll t htl
        clear hc h3
        obtain ⟨L, hL⟩ : ∃ L, L = (ps.getD t []).length := ⟨_, rfl⟩
        rw [← hL] at h1 h2 hlt
        have HL := hid hL
        clear hL hll
        have d2 : decide ((n : Int) ≤ 5000) = true := by simp; omega
        by_cases hmin : L ≤ 5001
        · have hm2 : (L : Int) ≤ 5001 := by omega
          go_wp2_with fail
          go_roundg (ps.length - (t + 1))
          case measure => have := HT.out; omega
          case rel =>
            refine ⟨t + 1, n + (20 + L), by omega, by go_num, by go_num, by omega, ?_, rfl⟩
            rcases HO.out with ⟨h5, h6⟩ | h5
            · by_cases h7 : L ≤ 5000
              · refine .inl ⟨by omega, fun j hj => ?_⟩
                by_cases e : j = t
                · subst e; rw [← HL.out]; exact h7
                · exact h6 j (by omega)
              · exact .inr (by omega)
            · omega
        · have hm2 : (5001 : Int) < (L : Int) := by omega
          go_wp2_with fail
          go_roundg (ps.length - (t + 1))
          case measure => have := HT.out; omega
          case rel => exact ⟨t + 1, n + 5021, by omega, by go_num, by go_num, by omega, .inr (by omega), rfl⟩
      · have d2 : decide ((n : Int) ≤ 5000) = false := by simp; omega
        go_wp2_with fail
        go_ret
        exact ⟨false, rfl, fun h => (by cases h), rfl⟩
    · have e : t = ps.length := by omega
      subst e
      have d1 : decide ((ps.length : Int) < (ps.length : Int)) = false := by simp
      by_cases hbig : n ≤ 5000
      · have d2 : decide ((n : Int) ≤ 5000) = true := by simp; omega
        go_wp2_with fail
        go_ret
        refine ⟨true, rfl, fun _ => ?_, rfl⟩
        rcases HO.out with ⟨h5, h6⟩ | h5
        · exact ⟨by omega, h6⟩
        · omega
      · have d2 : decide ((n : Int) ≤ 5000) = false := by simp; omega
        go_wp2_with fail
        go_ret
        exact ⟨false, rfl, fun h => (by cases h), rfl⟩
end Go.Proofs.YtfkeaglbfembnaaDoor.Mk18
