/- The size of parts; the law ShaSums' walk. -/
import Derived.WalkKit
import Derived.StillTactics
import Derived.Outline
import Derived.Test.YtfkeaglbfembnaaDoorSha10
import Derived.Test.YtfkeaglbfembnaaDoorSha12
namespace Go.Proofs.YtfkeaglbfembnaaDoor.Sha13
open Go Go.RowKit Go.Proofs.YtfkeaglbfembnaaDoor.Arr Go.Proofs.YtfkeaglbfembnaaDoor.Mid Go.Proofs.YtfkeaglbfembnaaDoor.App Go.Proofs.YtfkeaglbfembnaaDoor.Sha1 Go.Proofs.YtfkeaglbfembnaaDoor.Sha2 Go.Proofs.YtfkeaglbfembnaaDoor.Sha4 Go.Proofs.YtfkeaglbfembnaaDoor.Sha5 Go.Proofs.YtfkeaglbfembnaaDoor.Sha6 Go.Proofs.YtfkeaglbfembnaaDoor.Sha7 Go.Proofs.YtfkeaglbfembnaaDoor.Sha8 Go.Proofs.YtfkeaglbfembnaaDoor.Sha9 Go.Proofs.YtfkeaglbfembnaaDoor.Sha10 Go.Proofs.YtfkeaglbfembnaaDoor.Sha11 Go.Proofs.YtfkeaglbfembnaaDoor.Sha12
set_option maxRecDepth 100000
set_option linter.unusedVariables false
set_option linter.unusedSimpArgs false
/-- A bool; if it is true, the parts are few. -/
def FewRet (ps : List Bytes8) (w : World) (e : Ending) (w' : World) : Prop := ∃ b : Bool, e = .returned (.bool b) ∧ (b = true → ps.length + ps.flatten.length ≤ 20000) ∧ w = w'
set_option maxHeartbeats 4000000 in
theorem c_few (A : Option Addr) (ps : List Bytes8) (cap B : Nat) (w : World) (h : PSl w B A ps) (hl : ps.length < 10000000000000) (hll : ∀ k, k < ps.length → (ps.getD k []).length < 1000000000000000) :
    Calls Tryd.prog 15 #[.slice A ps.length cap] w (FewRet ps w) := by
  go_enter Tryd.func15, Tryd.ntmps15
  go_wp2_with fail
  go_loopg [3, 4] ps.length (fun k x i wr => ∃ t n : Nat, t + k = ps.length ∧ i = .int .i64 t ∧ x = .int .i64 n ∧ n ≤ 50000 ∧ (t + (pre ps t).length ≤ n ∨ 20000 < n) ∧ w = wr)
  case atStart => exact ⟨0, 0, by omega, rfl, rfl, by omega, .inl (by show 0 + 0 ≤ 0; omega), rfl⟩
  case round =>
    obtain ⟨t, n, ht, rfl, rfl, hn, hor, rfl⟩ := hrel
    have HT := hid ht
    have HO := hid hor
    have ht2 : t ≤ ps.length := by omega
    clear ht hor
    by_cases htl : t < ps.length
    · by_cases hbig : n ≤ 20000
      · obtain ⟨b, o, rfl, hb, hc⟩ := h (by omega)
        obtain ⟨A', c, h1, h2, h3⟩ := hc t htl
        have hlt := hll t htl
        clear hc h3
        obtain ⟨L, hL⟩ : ∃ L, L = (ps.getD t []).length := ⟨_, rfl⟩
        rw [← hL] at h1 h2 hlt
        have HL := hid hL
        clear hL
        have d1 : decide ((t : Int) < (ps.length : Int)) = true := by simp; omega
        have d2 : decide ((n : Int) ≤ 20000) = true := by simp; omega
        have hpre : (pre ps (t + 1)).length = (pre ps t).length + L := by rw [pre_succ ps t htl, List.length_append, HL.out]
        have HP := hid hpre
        clear hpre
        by_cases hmin : L ≤ 20001
        · go_wp2_with fail
          go_roundg (ps.length - (t + 1))
          case measure => have := HT.out; omega
          case rel => exact ⟨t + 1, n + (1 + L), by omega, by go_num, by go_num, by omega, by have := HP.out; have := HO.out; omega, rfl⟩
        · have hm2 : (20001 : Int) < (L : Int) := by omega
          go_wp2_with fail
          go_roundg (ps.length - (t + 1))
          case measure => have := HT.out; omega
          case rel => exact ⟨t + 1, n + 20002, by omega, by go_num, by go_num, by omega, .inr (by omega), rfl⟩
      · have d1 : decide ((t : Int) < (ps.length : Int)) = true := by simp; omega
        have d2 : decide ((n : Int) ≤ 20000) = false := by simp; omega
        go_wp2_with fail
        go_ret
        exact ⟨false, rfl, fun h => (by cases h), rfl⟩
    · have e : t = ps.length := by omega
      subst e
      have d1 : decide ((ps.length : Int) < (ps.length : Int)) = false := by simp
      by_cases hbig : n ≤ 20000
      · have d2 : decide ((n : Int) ≤ 20000) = true := by simp; omega
        have HO2 := HO.out
        rw [pre_all] at HO2
        have HO3 := hid HO2
        clear HO2
        go_wp2_with fail
        go_ret
        exact ⟨true, rfl, fun _ => (by have := HO3.out; omega), rfl⟩
      · have d2 : decide ((n : Int) ≤ 20000) = false := by simp; omega
        go_wp2_with fail
        go_ret
        exact ⟨false, rfl, fun h => (by cases h), rfl⟩
theorem eql26 (f g : Nat → B8) (w : World) : (binOp .eql 26 (.agg (brow 32 f)) (.agg (brow 32 g))).run Tryd.prog w = .ok (.bool (eq32 f g)) w := by
  have h := run_eql_row (P := Tryd.prog) (t := 26) (e := 5) (n := 32) Tryd.underlying26 Sha7.cell5 (brow 32 f) (brow 32 g) (fun i => f i == g i) w (fun i hi => ⟨_, _, brow_get 32 f i hi, brow_get 32 g i hi, ?_⟩)
  · rw [h]; unfold eq32; rfl
  · have hu := Tryd.underlying5
    have e : (((f i).toNat : Int) == ((g i).toNat : Int)) = (f i == g i) := by
      rw [Bool.eq_iff_iff, beq_iff_eq, beq_iff_eq]
      exact ⟨fun h => BitVec.eq_of_toNat_eq (by omega), fun h => by rw [h]⟩
    rw [← e]
    exact run_equalIn_int w 9998 5 _ _ _ _ hu
theorem unguarded26 : Tryd.prog.eqGuardType Tryd.prog.depth 26 = false := by kernel_rfl
set_option maxHeartbeats 4000000 in
theorem c_shaSums (A : Option Addr) (ps : List Bytes8) (cap : Nat) (w : World) (hG : Glob w) (h : PSl w w.heap.size A ps) (hl : ps.length < 10000000000000) (hll : ∀ k, k < ps.length → (ps.getD k []).length < 1000000000000000) :
    Calls Tryd.prog 3 #[.slice A ps.length cap] w fun e w' => e = .returned (.bool true) ∧ Below w.heap.size w w' := by
  have hlt := glob_lt hG
  go_enter Tryd.func3, Tryd.ntmps3
  have ev := eql26
  have hug := unguarded26
  go_wp2_with ((go_at_call 14; (with_reducible refine (c_awake _ hG).mono ?_); rintro e w1 ⟨rfl, hb1⟩; have hz1 := hb1.size; (try simp only [World.size_alloc, World.size_setCell, World.size_drew, setRow_size, Arr.size_drewN] at hz1)))
  have hB1 := hb1
  refine (c_few A ps cap w.heap.size w1 (h.below hb1 (Nat.le_refl _)) hl hll).mono ?_
  rintro e w2 ⟨b, rfl, hb, rfl⟩
  cases b
  · go_wp2_with ((go_at_call 14; (with_reducible refine (c_awake _ (glob_below hG hb1 hlt)).mono ?_); rintro e w3 ⟨rfl, hb3⟩))
    go_ret
    exact ⟨rfl, by (with_reducible repeat (first | assumption | exact Below.refl _ _ | (refine b4 ?_ ?_; focus (first | omega | (simp <;> omega))) | refine b2 ?_ | refine Below.drew ?_ | (refine b5 ?_ ?_; focus (first | omega | (simp <;> omega))) | (refine b1 ?_ ?_; focus (first | omega | (simp <;> omega))) | (refine b3 (by assumption) ?_ ?_; focus (first | omega | (simp <;> omega))) | (refine b6 (by assumption) ?_ ?_; focus (first | omega | (simp <;> omega)))))⟩
  · have hlen := hb rfl
    clear hb
    have hp1 := h.below hb1 (Nat.le_refl _)
    go_wp2_with ((go_at_call 16; (with_reducible refine (c_progSum A ps cap w.heap.size _ (glob_below hG hb1 hlt) hz1 hp1 hl (by omega)).mono ?_); rintro e w3 ⟨rfl, hb3⟩))
    have hb13 : Below w.heap.size w w3 := by (with_reducible repeat (first | assumption | exact Below.refl _ _ | (refine b4 ?_ ?_; focus (first | omega | (simp <;> omega))) | refine b2 ?_ | refine Below.drew ?_ | (refine b5 ?_ ?_; focus (first | omega | (simp <;> omega))) | (refine b1 ?_ ?_; focus (first | omega | (simp <;> omega))) | (refine b3 (by assumption) ?_ ?_; focus (first | omega | (simp <;> omega))) | (refine b6 (by assumption) ?_ ?_; focus (first | omega | (simp <;> omega)))))
    have hp3 := h.below hb13 (Nat.le_refl _)
    have hz3 := hb13.size
    refine (c_join A ps cap w.heap.size w3 hz3 hp3 hl (by omega)).mono ?_
    rintro e w4 ⟨v, rfl, hO, hb4⟩
    obtain ⟨A4, c4, rfl, hc4, hs4, _⟩ := hO.form
    have hz4 := hb4.size
    obtain ⟨l, hl4⟩ : ∃ l, l = ps.flatten := ⟨_, rfl⟩
    have hlen2 : l.length ≤ 20000 := by rw [hl4]; omega
    rw [← hl4] at hs4 hc4 ⊢
    have HL := hid hl4
    clear hl4 hO
    have c17 := c_refSum A4 l c4 w4.heap.size w4 (Nat.le_refl _) hs4 (by omega)
    obtain ⟨D, hD⟩ : ∃ D, D = shaL l := ⟨_, rfl⟩
    rw [← hD] at c17 ⊢
    clear hD
    have C17 := hid c17
    clear c17
    go_wp2_with ((go_at_call 17; (with_reducible refine (C17.out).mono ?_); rintro e w5 ⟨rfl, hb5⟩))
    go_ret
    exact ⟨by rw [eq32_refl]; rfl, by (with_reducible repeat (first | assumption | exact Below.refl _ _ | (refine b4 ?_ ?_; focus (first | omega | (simp <;> omega))) | refine b2 ?_ | refine Below.drew ?_ | (refine b5 ?_ ?_; focus (first | omega | (simp <;> omega))) | (refine b1 ?_ ?_; focus (first | omega | (simp <;> omega))) | (refine b3 (by assumption) ?_ ?_; focus (first | omega | (simp <;> omega))) | (refine b6 (by assumption) ?_ ?_; focus (first | omega | (simp <;> omega)))))⟩
theorem w_shaSums (W : World) (hG : Glob W) (A : Option Addr) (ps : List Bytes8) (cap : Nat) (hc : ps.length ≤ cap) (h : PSl W W.heap.size A ps) (hl : ps.length < 10000000000000) (hll : ∀ k, k < ps.length → (ps.getD k []).length < 1000000000000000) :
    Calls Tryd.prog 3 #[.slice A ps.length cap] W fun e w' => e = .returned (.bool true) ∧ Below W.heap.size W w' := c_shaSums A ps cap W hG h hl hll
end Go.Proofs.YtfkeaglbfembnaaDoor.Sha13
