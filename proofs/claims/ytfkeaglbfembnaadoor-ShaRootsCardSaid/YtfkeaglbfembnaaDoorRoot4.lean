/- The reference's root walked. -/
import Derived.WalkKit
import Derived.StillTactics
import Derived.Outline
import Derived.Test.YtfkeaglbfembnaaDoorRoot3
import Derived.Test.YtfkeaglbfembnaaDoorApp
namespace Go.Proofs.YtfkeaglbfembnaaDoor.Root4
open Go Go.RowKit Go.Proofs.YtfkeaglbfembnaaDoor.Arr Go.Proofs.YtfkeaglbfembnaaDoor.Sha2 Go.Proofs.YtfkeaglbfembnaaDoor.Root1 Go.Proofs.YtfkeaglbfembnaaDoor.Root2 Go.Proofs.YtfkeaglbfembnaaDoor.Root3 Go.Proofs.YtfkeaglbfembnaaDoor.App
set_option maxRecDepth 100000
set_option linter.unusedVariables false
set_option linter.unusedSimpArgs false
theorem wrap64u (n : Int) (h0 : 0 ≤ n) (h1 : n < 18446744073709551616) : IntKind.u64.wrap n = n := by
  show n % 18446744073709551616 = n
  omega
set_option maxHeartbeats 8000000 in
theorem c_root (p k R : Nat) (hp : p < 65536) (hk : k = 2 ∨ k = 3) (hR : IsRoot k (p * 65536 ^ (2 * k)) R) (w : World) :
    Calls Tryd.prog 45 #[.int .u64 p, .int .i64 k] w fun e w' => e = .returned (.int .u32 ((R % 4294967296 : Nat) : Int)) ∧ Below w.heap.size w w' := by
  have z88 := zero88
  have HR := hid hR
  clear hR
  have hk2 : k ≤ 3 := by omega
  have l0 : ((2 * (k : Int))).toNat = 2 * k := by omega
  have l1 : (0 : Int) ≤ 2 * (k : Int) := by omega
  have l2 : 2 * (k : Int) < 12 := by omega
  have l3 : IntKind.i64.wrap (2 * (k : Int)) = 2 * (k : Int) := wrap64 _ (by omega) (by omega)
  go_enter Tryd.func45, Tryd.ntmps45
  go_wp2_with (first | ((with_reducible refine Arr.arm_store1 Root1.cell36 rfl ?_); refine ⟨rfl, _, _, _, _, _, rfl, rfl, by (with_reducible repeat (first | assumption | (refine p1 ?_; (first | omega | (simp <;> omega))) | (refine p2 ?_ ?_; focus (first | omega | (simp <;> omega))) | refine p3 ?_ | refine p4 ?_ | apply p5 | (refine p6 ?_ ?_; focus (first | omega | (simp <;> omega))) | apply p7 | (refine p8 ?_ ?_; focus (first | omega | (simp <;> omega))) | (refine p9 (by assumption) ?_ ?_; focus (first | omega | (simp <;> omega))) | (refine p10 (by assumption) ?_ ?_; focus (first | omega | (simp <;> omega))))), by (rw [drow_size]; omega), rfl, ?_⟩; (try simp only [Act.put, Act.eval, List.setIfInBounds_toArray, List.set_cons_zero, List.set_cons_succ, Array.getD_eq_getD_getElem?, List.getElem?_toArray, List.getElem?_cons_zero, List.getElem?_cons_succ, Option.getD_some])))
  refine Arr.name_world _ (fun W hW => ?_)
  have g0 : W.heap[w.heap.size]? = some (.cells (drow (dgt (p * 65536 ^ (2 * k)))) 88 (0, 0)) := by
    rw [hW, ← drow_put p (2 * k) hp]; (with_reducible repeat (first | assumption | (refine p1 ?_; (first | omega | (simp <;> omega))) | (refine p2 ?_ ?_; focus (first | omega | (simp <;> omega))) | refine p3 ?_ | refine p4 ?_ | apply p5 | (refine p6 ?_ ?_; focus (first | omega | (simp <;> omega))) | apply p7 | (refine p8 ?_ ?_; focus (first | omega | (simp <;> omega))) | (refine p9 (by assumption) ?_ ?_; focus (first | omega | (simp <;> omega))) | (refine p10 (by assumption) ?_ ?_; focus (first | omega | (simp <;> omega)))))
  have hB : Below w.heap.size w W := by rw [hW]; (with_reducible repeat (first | assumption | exact Below.refl _ _ | (refine b4 ?_ ?_; focus (first | omega | (simp <;> omega))) | refine b2 ?_ | refine Below.drew ?_ | (refine b5 ?_ ?_; focus (first | omega | (simp <;> omega))) | (refine b1 ?_ ?_; focus (first | omega | (simp <;> omega))) | (refine b3 (by assumption) ?_ ?_; focus (first | omega | (simp <;> omega))) | (refine b6 (by assumption) ?_ ?_; focus (first | omega | (simp <;> omega)))))
  clear hW
  obtain ⟨V, hV⟩ : ∃ V, V = p * 65536 ^ (2 * k) := ⟨_, rfl⟩
  rw [← hV] at g0 HR
  have hVlt : V < 65536 ^ 12 := by
    rw [hV, show (65536 : Nat) ^ 12 = 65536 ^ 5 * 65536 ^ 7 by rw [← Nat.pow_add]]
    apply Nat.mul_lt_mul_of_lt_of_le (by omega) (Nat.pow_le_pow_right (by decide) (by omega)) (Nat.pow_pos (by decide))
  have HVlt := hid hVlt
  clear hV hVlt
  go_loopg [6, 7] 41 (fun n r i wr => i = .int .i64 ((n : Int) - 1) ∧ r = .int .u64 ((upB R n : Nat) : Int) ∧ n ≤ 41 ∧ wr.heap[w.heap.size]? = some (.cells (drow (dgt V)) 88 (0, 0)) ∧ Below w.heap.size w wr)
  case atStart => exact ⟨rfl, by rw [upB_top R HR.out.2.2]; rfl, by omega, g0, hB⟩
  case round =>
    clear g0 hB
    obtain ⟨rfl, rfl, hn, g0, hB⟩ := hrel
    rcases gk with _ | t
    · have d1 : decide ((0 : Int) ≤ ((0 : Nat) : Int) - 1) = false := by decide
      rw [upB_zero R]
      have hR41 : R < 2199023255552 := HR.out.2.2
      go_wp2_with fail
      go_ret
      exact ⟨by show Ending.returned (.int .u32 ((R : Int) % 4294967296)) = _; rw [show ((R % 4294967296 : Nat) : Int) = (R : Int) % 4294967296 by omega], by (with_reducible repeat (first | assumption | exact Below.refl _ _ | (refine b4 ?_ ?_; focus (first | omega | (simp <;> omega))) | refine b2 ?_ | refine Below.drew ?_ | (refine b5 ?_ ?_; focus (first | omega | (simp <;> omega))) | (refine b1 ?_ ?_; focus (first | omega | (simp <;> omega))) | (refine b3 (by assumption) ?_ ?_; focus (first | omega | (simp <;> omega))) | (refine b6 (by assumption) ?_ ?_; focus (first | omega | (simp <;> omega)))))⟩
    · have e1 : ((t + 1 : Nat) : Int) - 1 = (t : Int) := by omega
      rw [e1]
      have d1 : decide ((0 : Int) ≤ (t : Int)) = true := by rw [decide_eq_true_iff]; omega
      obtain ⟨r, hr⟩ : ∃ r, r = upB R (t + 1) := ⟨_, rfl⟩
      rw [← hr]
      have hr2 : r < 2199023255552 := by rw [hr]; exact Nat.lt_of_le_of_lt (upB_le _ _) HR.out.2.2
      have HRR := hid hr
      clear hr
      obtain ⟨b, hb⟩ : ∃ b : Nat, b = 2 ^ t := ⟨_, rfl⟩
      have hb2 : b ≤ 1099511627776 := by
        rw [hb]
        exact Nat.le_trans (Nat.pow_le_pow_right (by decide) (show t ≤ 40 by omega)) (by decide)
      have w1 : IntKind.u64.wrap ((2 : Int) ^ t) = (b : Int) := by
        rw [show ((2 : Int) ^ t) = (b : Int) by rw [hb]; push_cast; rfl]
        exact wrap64u _ (by omega) (by omega)
      obtain ⟨T, hT⟩ : ∃ T : Nat, T = r + b := ⟨_, rfl⟩
      have hT2 : T < 3298534883328 := by omega
      have w2 : IntKind.u64.wrap ((r : Int) + (b : Int)) = (T : Int) := by
        rw [show (r : Int) + (b : Int) = (T : Int) by omega]
        exact wrap64u _ (by omega) (by omega)
      obtain ⟨e0, he0⟩ : ∃ e0 : Nat, e0 = T % 65536 := ⟨_, rfl⟩
      obtain ⟨f1, hf1⟩ : ∃ f1 : Nat, f1 = T / 65536 := ⟨_, rfl⟩
      obtain ⟨e1', he1⟩ : ∃ e1' : Nat, e1' = f1 % 65536 := ⟨_, rfl⟩
      obtain ⟨e2, he2⟩ : ∃ e2 : Nat, e2 = f1 / 65536 := ⟨_, rfl⟩
      have w3 : (T : Int).tmod 65536 = (e0 : Int) := by rw [Int.tmod_eq_emod_of_nonneg (by omega)]; omega
      have w4 : (T : Int).tdiv 65536 = (f1 : Int) := by rw [Int.tdiv_eq_ediv_of_nonneg (by omega)]; omega
      have w5 : IntKind.u64.wrap (f1 : Int) = (f1 : Int) := wrap64u _ (by omega) (by omega)
      have w6 : (f1 : Int).tmod 65536 = (e1' : Int) := by rw [Int.tmod_eq_emod_of_nonneg (by omega)]; omega
      have w7 : (f1 : Int).tdiv 65536 = (e2 : Int) := by rw [Int.tdiv_eq_ediv_of_nonneg (by omega)]; omega
      have w8 : IntKind.u64.wrap (e2 : Int) = (e2 : Int) := wrap64u _ (by omega) (by omega)
      have HT3 : Hid (drow (fun i => if i = 0 then e0 else if i = 1 then e1' else if i = 2 then e2 else 0) = drow (dgt T)) := by
        show _ = _
        rw [he0, he1, he2, hf1]; exact drow_three T (Nat.lt_trans hT2 (by decide))
      have HTr := hid hT
      have HB := hid hb
      clear hT hb he0 he1 he2 hf1
      have hTT : T * T < 65536 ^ 6 := Nat.lt_of_lt_of_le (Nat.mul_lt_mul'' hT2 hT2) (by decide)
      have hTTT : T * T * T < 65536 ^ 12 := Nat.lt_of_lt_of_le (Nat.mul_lt_mul'' hTT hT2) (by decide)
      have hTT2 : T * T < 65536 ^ 12 := Nat.lt_of_lt_of_le hTT (by decide)
      have hT12 : T < 65536 ^ 12 := Nat.lt_trans hT2 (by decide)
      have HP1 := hid hTT2
      have HP2 := hid hTTT
      have HP3 := hid hT12
      have hz0 := lt_of g0
      clear hTT hTTT hTT2 hT12
      by_cases hRT : R < T
      all_goals
        have HU : Hid (upB R t = if R < T then r else T) := by
          show _ = _
          have h1 := HRR.out
          have h2 := HTr.out
          have h3 := HB.out
          rw [upB_step R t, ← h1, ← h3, ← h2]
      · rw [if_pos hRT] at HU
        rcases hk with rfl | rfl
        · have hlt : ltB V (T * T) = true := by
            unfold ltB
            rw [decide_eq_true_iff]
            first | exact (root_iff HR.out T).2 hRT | exact fun hh => hRT ((root_iff HR.out T).1 hh)
          go_wp2_with (first | ((with_reducible refine arm_build 88 (.agg (drow (fun i => if i = 0 then e0 else if i = 1 then e1' else if i = 2 then e2 else 0))) rfl rfl ?_ ?_); (focus kernel_rfl); rw [HT3.out]) | ((with_reducible refine Arr.arm_load row88 rfl ?_); refine ⟨rfl, _, _, _, _, rfl, by (with_reducible repeat (first | assumption | (refine p1 ?_; (first | omega | (simp <;> omega))) | (refine p2 ?_ ?_; focus (first | omega | (simp <;> omega))) | refine p3 ?_ | refine p4 ?_ | apply p5 | (refine p6 ?_ ?_; focus (first | omega | (simp <;> omega))) | apply p7 | (refine p8 ?_ ?_; focus (first | omega | (simp <;> omega))) | (refine p9 (by assumption) ?_ ?_; focus (first | omega | (simp <;> omega))) | (refine p10 (by assumption) ?_ ?_; focus (first | omega | (simp <;> omega))))), by (exact drow_size _), ?_⟩; skip) | ((with_reducible refine Arr.arm_store row88 rfl ?_); refine ⟨rfl, _, _, _, _, rfl, rfl, by (with_reducible repeat (first | assumption | (refine p1 ?_; (first | omega | (simp <;> omega))) | (refine p2 ?_ ?_; focus (first | omega | (simp <;> omega))) | refine p3 ?_ | refine p4 ?_ | apply p5 | (refine p6 ?_ ?_; focus (first | omega | (simp <;> omega))) | apply p7 | (refine p8 ?_ ?_; focus (first | omega | (simp <;> omega))) | (refine p9 (by assumption) ?_ ?_; focus (first | omega | (simp <;> omega))) | (refine p10 (by assumption) ?_ ?_; focus (first | omega | (simp <;> omega))))), by (exact drow_size _), by (exact drow_size _), by (exact drow_one _), ?_⟩) | (go_at_call 58; (with_reducible refine (c_times T T HP3.out HP1.out _).mono ?_); rintro e w1 ⟨rfl, hb1⟩; have hz1 := hb1.size; (try simp only [World.size_alloc, World.size_setCell, World.size_drew, setRow_size, Arr.size_drewN] at hz1)) | (go_at_call 59; (with_reducible refine (c_less V (T * T) HVlt.out HP1.out _).mono ?_); rintro e w2 ⟨rfl, hb2⟩; have hz2 := hb2.size; (try simp only [World.size_alloc, World.size_setCell, World.size_drew, setRow_size, Arr.size_drewN] at hz2)))
          go_roundg t
          case measure => omega
          case rel => exact ⟨by go_num, by rw [HU.out], by omega, by (with_reducible repeat (first | assumption | (refine p1 ?_; (first | omega | (simp <;> omega))) | (refine p2 ?_ ?_; focus (first | omega | (simp <;> omega))) | refine p3 ?_ | refine p4 ?_ | apply p5 | (refine p6 ?_ ?_; focus (first | omega | (simp <;> omega))) | apply p7 | (refine p8 ?_ ?_; focus (first | omega | (simp <;> omega))) | (refine p9 (by assumption) ?_ ?_; focus (first | omega | (simp <;> omega))) | (refine p10 (by assumption) ?_ ?_; focus (first | omega | (simp <;> omega))))), by (with_reducible repeat (first | assumption | exact Below.refl _ _ | (refine b4 ?_ ?_; focus (first | omega | (simp <;> omega))) | refine b2 ?_ | refine Below.drew ?_ | (refine b5 ?_ ?_; focus (first | omega | (simp <;> omega))) | (refine b1 ?_ ?_; focus (first | omega | (simp <;> omega))) | (refine b3 (by assumption) ?_ ?_; focus (first | omega | (simp <;> omega))) | (refine b6 (by assumption) ?_ ?_; focus (first | omega | (simp <;> omega)))))⟩
        · have hlt : ltB V (T * T * T) = true := by
            unfold ltB
            rw [decide_eq_true_iff]
            first | exact (root_iff HR.out T).2 hRT | exact fun hh => hRT ((root_iff HR.out T).1 hh)
          go_wp2_with (first | ((with_reducible refine arm_build 88 (.agg (drow (fun i => if i = 0 then e0 else if i = 1 then e1' else if i = 2 then e2 else 0))) rfl rfl ?_ ?_); (focus kernel_rfl); rw [HT3.out]) | ((with_reducible refine Arr.arm_load row88 rfl ?_); refine ⟨rfl, _, _, _, _, rfl, by (with_reducible repeat (first | assumption | (refine p1 ?_; (first | omega | (simp <;> omega))) | (refine p2 ?_ ?_; focus (first | omega | (simp <;> omega))) | refine p3 ?_ | refine p4 ?_ | apply p5 | (refine p6 ?_ ?_; focus (first | omega | (simp <;> omega))) | apply p7 | (refine p8 ?_ ?_; focus (first | omega | (simp <;> omega))) | (refine p9 (by assumption) ?_ ?_; focus (first | omega | (simp <;> omega))) | (refine p10 (by assumption) ?_ ?_; focus (first | omega | (simp <;> omega))))), by (exact drow_size _), ?_⟩; skip) | ((with_reducible refine Arr.arm_store row88 rfl ?_); refine ⟨rfl, _, _, _, _, rfl, rfl, by (with_reducible repeat (first | assumption | (refine p1 ?_; (first | omega | (simp <;> omega))) | (refine p2 ?_ ?_; focus (first | omega | (simp <;> omega))) | refine p3 ?_ | refine p4 ?_ | apply p5 | (refine p6 ?_ ?_; focus (first | omega | (simp <;> omega))) | apply p7 | (refine p8 ?_ ?_; focus (first | omega | (simp <;> omega))) | (refine p9 (by assumption) ?_ ?_; focus (first | omega | (simp <;> omega))) | (refine p10 (by assumption) ?_ ?_; focus (first | omega | (simp <;> omega))))), by (exact drow_size _), by (exact drow_size _), by (exact drow_one _), ?_⟩) | (go_at_call 58; (with_reducible refine (c_times T T HP3.out HP1.out _).mono ?_); rintro e w1 ⟨rfl, hb1⟩; have hz1 := hb1.size; (try simp only [World.size_alloc, World.size_setCell, World.size_drew, setRow_size, Arr.size_drewN] at hz1)) | (go_at_call 58; (with_reducible refine (c_times (T * T) T HP1.out HP2.out _).mono ?_); rintro e w2 ⟨rfl, hb2⟩; have hz2 := hb2.size; (try simp only [World.size_alloc, World.size_setCell, World.size_drew, setRow_size, Arr.size_drewN] at hz2)) | (go_at_call 59; (with_reducible refine (c_less V (T * T * T) HVlt.out HP2.out _).mono ?_); rintro e w3 ⟨rfl, hb3⟩; have hz3 := hb3.size; (try simp only [World.size_alloc, World.size_setCell, World.size_drew, setRow_size, Arr.size_drewN] at hz3)))
          go_roundg t
          case measure => omega
          case rel => exact ⟨by go_num, by rw [HU.out], by omega, by (with_reducible repeat (first | assumption | (refine p1 ?_; (first | omega | (simp <;> omega))) | (refine p2 ?_ ?_; focus (first | omega | (simp <;> omega))) | refine p3 ?_ | refine p4 ?_ | apply p5 | (refine p6 ?_ ?_; focus (first | omega | (simp <;> omega))) | apply p7 | (refine p8 ?_ ?_; focus (first | omega | (simp <;> omega))) | (refine p9 (by assumption) ?_ ?_; focus (first | omega | (simp <;> omega))) | (refine p10 (by assumption) ?_ ?_; focus (first | omega | (simp <;> omega))))), by (with_reducible repeat (first | assumption | exact Below.refl _ _ | (refine b4 ?_ ?_; focus (first | omega | (simp <;> omega))) | refine b2 ?_ | refine Below.drew ?_ | (refine b5 ?_ ?_; focus (first | omega | (simp <;> omega))) | (refine b1 ?_ ?_; focus (first | omega | (simp <;> omega))) | (refine b3 (by assumption) ?_ ?_; focus (first | omega | (simp <;> omega))) | (refine b6 (by assumption) ?_ ?_; focus (first | omega | (simp <;> omega)))))⟩
      · rw [if_neg hRT] at HU
        rcases hk with rfl | rfl
        · have hlt : ltB V (T * T) = false := by
            unfold ltB
            rw [decide_eq_false_iff_not]
            first | exact (root_iff HR.out T).2 hRT | exact fun hh => hRT ((root_iff HR.out T).1 hh)
          go_wp2_with (first | ((with_reducible refine arm_build 88 (.agg (drow (fun i => if i = 0 then e0 else if i = 1 then e1' else if i = 2 then e2 else 0))) rfl rfl ?_ ?_); (focus kernel_rfl); rw [HT3.out]) | ((with_reducible refine Arr.arm_load row88 rfl ?_); refine ⟨rfl, _, _, _, _, rfl, by (with_reducible repeat (first | assumption | (refine p1 ?_; (first | omega | (simp <;> omega))) | (refine p2 ?_ ?_; focus (first | omega | (simp <;> omega))) | refine p3 ?_ | refine p4 ?_ | apply p5 | (refine p6 ?_ ?_; focus (first | omega | (simp <;> omega))) | apply p7 | (refine p8 ?_ ?_; focus (first | omega | (simp <;> omega))) | (refine p9 (by assumption) ?_ ?_; focus (first | omega | (simp <;> omega))) | (refine p10 (by assumption) ?_ ?_; focus (first | omega | (simp <;> omega))))), by (exact drow_size _), ?_⟩; skip) | ((with_reducible refine Arr.arm_store row88 rfl ?_); refine ⟨rfl, _, _, _, _, rfl, rfl, by (with_reducible repeat (first | assumption | (refine p1 ?_; (first | omega | (simp <;> omega))) | (refine p2 ?_ ?_; focus (first | omega | (simp <;> omega))) | refine p3 ?_ | refine p4 ?_ | apply p5 | (refine p6 ?_ ?_; focus (first | omega | (simp <;> omega))) | apply p7 | (refine p8 ?_ ?_; focus (first | omega | (simp <;> omega))) | (refine p9 (by assumption) ?_ ?_; focus (first | omega | (simp <;> omega))) | (refine p10 (by assumption) ?_ ?_; focus (first | omega | (simp <;> omega))))), by (exact drow_size _), by (exact drow_size _), by (exact drow_one _), ?_⟩) | (go_at_call 58; (with_reducible refine (c_times T T HP3.out HP1.out _).mono ?_); rintro e w1 ⟨rfl, hb1⟩; have hz1 := hb1.size; (try simp only [World.size_alloc, World.size_setCell, World.size_drew, setRow_size, Arr.size_drewN] at hz1)) | (go_at_call 59; (with_reducible refine (c_less V (T * T) HVlt.out HP1.out _).mono ?_); rintro e w2 ⟨rfl, hb2⟩; have hz2 := hb2.size; (try simp only [World.size_alloc, World.size_setCell, World.size_drew, setRow_size, Arr.size_drewN] at hz2)))
          go_roundg t
          case measure => omega
          case rel => exact ⟨by go_num, by rw [HU.out], by omega, by (with_reducible repeat (first | assumption | (refine p1 ?_; (first | omega | (simp <;> omega))) | (refine p2 ?_ ?_; focus (first | omega | (simp <;> omega))) | refine p3 ?_ | refine p4 ?_ | apply p5 | (refine p6 ?_ ?_; focus (first | omega | (simp <;> omega))) | apply p7 | (refine p8 ?_ ?_; focus (first | omega | (simp <;> omega))) | (refine p9 (by assumption) ?_ ?_; focus (first | omega | (simp <;> omega))) | (refine p10 (by assumption) ?_ ?_; focus (first | omega | (simp <;> omega))))), by (with_reducible repeat (first | assumption | exact Below.refl _ _ | (refine b4 ?_ ?_; focus (first | omega | (simp <;> omega))) | refine b2 ?_ | refine Below.drew ?_ | (refine b5 ?_ ?_; focus (first | omega | (simp <;> omega))) | (refine b1 ?_ ?_; focus (first | omega | (simp <;> omega))) | (refine b3 (by assumption) ?_ ?_; focus (first | omega | (simp <;> omega))) | (refine b6 (by assumption) ?_ ?_; focus (first | omega | (simp <;> omega)))))⟩
        · have hlt : ltB V (T * T * T) = false := by
            unfold ltB
            rw [decide_eq_false_iff_not]
            first | exact (root_iff HR.out T).2 hRT | exact fun hh => hRT ((root_iff HR.out T).1 hh)
          go_wp2_with (first | ((with_reducible refine arm_build 88 (.agg (drow (fun i => if i = 0 then e0 else if i = 1 then e1' else if i = 2 then e2 else 0))) rfl rfl ?_ ?_); (focus kernel_rfl); rw [HT3.out]) | ((with_reducible refine Arr.arm_load row88 rfl ?_); refine ⟨rfl, _, _, _, _, rfl, by (with_reducible repeat (first | assumption | (refine p1 ?_; (first | omega | (simp <;> omega))) | (refine p2 ?_ ?_; focus (first | omega | (simp <;> omega))) | refine p3 ?_ | refine p4 ?_ | apply p5 | (refine p6 ?_ ?_; focus (first | omega | (simp <;> omega))) | apply p7 | (refine p8 ?_ ?_; focus (first | omega | (simp <;> omega))) | (refine p9 (by assumption) ?_ ?_; focus (first | omega | (simp <;> omega))) | (refine p10 (by assumption) ?_ ?_; focus (first | omega | (simp <;> omega))))), by (exact drow_size _), ?_⟩; skip) | ((with_reducible refine Arr.arm_store row88 rfl ?_); refine ⟨rfl, _, _, _, _, rfl, rfl, by (with_reducible repeat (first | assumption | (refine p1 ?_; (first | omega | (simp <;> omega))) | (refine p2 ?_ ?_; focus (first | omega | (simp <;> omega))) | refine p3 ?_ | refine p4 ?_ | apply p5 | (refine p6 ?_ ?_; focus (first | omega | (simp <;> omega))) | apply p7 | (refine p8 ?_ ?_; focus (first | omega | (simp <;> omega))) | (refine p9 (by assumption) ?_ ?_; focus (first | omega | (simp <;> omega))) | (refine p10 (by assumption) ?_ ?_; focus (first | omega | (simp <;> omega))))), by (exact drow_size _), by (exact drow_size _), by (exact drow_one _), ?_⟩) | (go_at_call 58; (with_reducible refine (c_times T T HP3.out HP1.out _).mono ?_); rintro e w1 ⟨rfl, hb1⟩; have hz1 := hb1.size; (try simp only [World.size_alloc, World.size_setCell, World.size_drew, setRow_size, Arr.size_drewN] at hz1)) | (go_at_call 58; (with_reducible refine (c_times (T * T) T HP1.out HP2.out _).mono ?_); rintro e w2 ⟨rfl, hb2⟩; have hz2 := hb2.size; (try simp only [World.size_alloc, World.size_setCell, World.size_drew, setRow_size, Arr.size_drewN] at hz2)) | (go_at_call 59; (with_reducible refine (c_less V (T * T * T) HVlt.out HP2.out _).mono ?_); rintro e w3 ⟨rfl, hb3⟩; have hz3 := hb3.size; (try simp only [World.size_alloc, World.size_setCell, World.size_drew, setRow_size, Arr.size_drewN] at hz3)))
          go_roundg t
          case measure => omega
          case rel => exact ⟨by go_num, by rw [HU.out], by omega, by (with_reducible repeat (first | assumption | (refine p1 ?_; (first | omega | (simp <;> omega))) | (refine p2 ?_ ?_; focus (first | omega | (simp <;> omega))) | refine p3 ?_ | refine p4 ?_ | apply p5 | (refine p6 ?_ ?_; focus (first | omega | (simp <;> omega))) | apply p7 | (refine p8 ?_ ?_; focus (first | omega | (simp <;> omega))) | (refine p9 (by assumption) ?_ ?_; focus (first | omega | (simp <;> omega))) | (refine p10 (by assumption) ?_ ?_; focus (first | omega | (simp <;> omega))))), by (with_reducible repeat (first | assumption | exact Below.refl _ _ | (refine b4 ?_ ?_; focus (first | omega | (simp <;> omega))) | refine b2 ?_ | refine Below.drew ?_ | (refine b5 ?_ ?_; focus (first | omega | (simp <;> omega))) | (refine b1 ?_ ?_; focus (first | omega | (simp <;> omega))) | (refine b3 (by assumption) ?_ ?_; focus (first | omega | (simp <;> omega))) | (refine b6 (by assumption) ?_ ?_; focus (first | omega | (simp <;> omega)))))⟩
end Go.Proofs.YtfkeaglbfembnaaDoor.Root4
