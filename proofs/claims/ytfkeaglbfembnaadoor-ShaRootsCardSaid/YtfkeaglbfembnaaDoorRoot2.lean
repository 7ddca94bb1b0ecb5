/- The reference's product and comparing of numbers of twelve digits. -/
import Derived.WalkKit
import Derived.StillTactics
import Derived.Outline
import Derived.Test.YtfkeaglbfembnaaDoorRoot1
namespace Go.Proofs.YtfkeaglbfembnaaDoor.Root2
open Go Go.RowKit Go.Proofs.YtfkeaglbfembnaaDoor.Arr Go.Proofs.YtfkeaglbfembnaaDoor.Sha2 Go.Proofs.YtfkeaglbfembnaaDoor.Root1
set_option maxRecDepth 100000
set_option linter.unusedVariables false
set_option linter.unusedSimpArgs false
theorem drow_store (V j c T v1 v2 : Nat) (h : V / 65536 ^ j = c + 65536 * T) (h1 : v1 = dgt T 0 + c / 65536) (h2 : v2 = c % 65536) :
    ((drow (crow V j c T)).setIfInBounds (j + 1) (.int .u64 (v1 : Nat))).setIfInBounds j (.int .u64 (v2 : Nat)) = drow (crow V (j + 1) (T % 65536 + c / 65536) (T / 65536)) := by
  rw [drow_set, drow_set]
  apply drow_congr
  intro i _
  rw [← crow_step V j c T h i, h1, h2]
theorem top_small (V c T : Nat) (hV : V < 65536 ^ 12) (h : V / 65536 ^ 11 = c + 65536 * T) : c < 65536 := by
  have h1 : V / 65536 ^ 11 < 65536 := by
    rw [Nat.div_lt_iff_lt_mul (Nat.pow_pos (by decide))]
    calc V < 65536 ^ 12 := hV
      _ = 65536 * 65536 ^ 11 := by rw [Nat.pow_succ, Nat.mul_comm]
  omega
set_option maxHeartbeats 8000000 in
theorem c_times (X Y : Nat) (hX : X < 65536 ^ 12) (hXY : X * Y < 65536 ^ 12) (w : World) :
    Calls Tryd.prog 58 #[.agg (drow (dgt X)), .agg (drow (dgt Y))] w fun e w' => e = .returned (.agg (drow (dgt (X * Y)))) ∧ Below w.heap.size w w' := by
  have HX := hid hX
  have HXY := hid hXY
  clear hX hXY
  have z88 := zero88
  go_enter Tryd.func58, Tryd.ntmps58
  go_wp2_with fail
  refine Arr.name_world _ (fun W hW => ?_)
  have g0 : W.heap[w.heap.size]? = some (.cells (drow (dgt X)) 88 (0, 0)) := by rw [hW]; (with_reducible repeat (first | assumption | (refine p1 ?_; (first | omega | (simp <;> omega))) | (refine p2 ?_ ?_; focus (first | omega | (simp <;> omega))) | refine p3 ?_ | refine p4 ?_ | apply p5 | (refine p6 ?_ ?_; focus (first | omega | (simp <;> omega))) | apply p7 | (refine p8 ?_ ?_; focus (first | omega | (simp <;> omega))) | (refine p9 (by assumption) ?_ ?_; focus (first | omega | (simp <;> omega))) | (refine p10 (by assumption) ?_ ?_; focus (first | omega | (simp <;> omega)))))
  have g1 : W.heap[w.heap.size + 1]? = some (.cells (drow (dgt Y)) 88 (0, 0)) := by rw [hW]; (with_reducible repeat (first | assumption | (refine p1 ?_; (first | omega | (simp <;> omega))) | (refine p2 ?_ ?_; focus (first | omega | (simp <;> omega))) | refine p3 ?_ | refine p4 ?_ | apply p5 | (refine p6 ?_ ?_; focus (first | omega | (simp <;> omega))) | apply p7 | (refine p8 ?_ ?_; focus (first | omega | (simp <;> omega))) | (refine p9 (by assumption) ?_ ?_; focus (first | omega | (simp <;> omega))) | (refine p10 (by assumption) ?_ ?_; focus (first | omega | (simp <;> omega)))))
  have g2 : W.heap[w.heap.size + 1 + 1]? = some (.cells (drow (dgt 0)) 88 (0, 0)) := by rw [hW]; (with_reducible repeat (first | assumption | (refine p1 ?_; (first | omega | (simp <;> omega))) | (refine p2 ?_ ?_; focus (first | omega | (simp <;> omega))) | refine p3 ?_ | refine p4 ?_ | apply p5 | (refine p6 ?_ ?_; focus (first | omega | (simp <;> omega))) | apply p7 | (refine p8 ?_ ?_; focus (first | omega | (simp <;> omega))) | (refine p9 (by assumption) ?_ ?_; focus (first | omega | (simp <;> omega))) | (refine p10 (by assumption) ?_ ?_; focus (first | omega | (simp <;> omega)))))
  have g3 : W.heap[w.heap.size + 1 + 1 + 1]? = some (.cells (drow (dgt (part12 X Y 0 0))) 88 (0, 0)) := by rw [hW, part_zero]; (with_reducible repeat (first | assumption | (refine p1 ?_; (first | omega | (simp <;> omega))) | (refine p2 ?_ ?_; focus (first | omega | (simp <;> omega))) | refine p3 ?_ | refine p4 ?_ | apply p5 | (refine p6 ?_ ?_; focus (first | omega | (simp <;> omega))) | apply p7 | (refine p8 ?_ ?_; focus (first | omega | (simp <;> omega))) | (refine p9 (by assumption) ?_ ?_; focus (first | omega | (simp <;> omega))) | (refine p10 (by assumption) ?_ ?_; focus (first | omega | (simp <;> omega)))))
  have hB : Below w.heap.size w W := by rw [hW]; (with_reducible repeat (first | assumption | exact Below.refl _ _ | (refine b4 ?_ ?_; focus (first | omega | (simp <;> omega))) | refine b2 ?_ | refine Below.drew ?_ | (refine b5 ?_ ?_; focus (first | omega | (simp <;> omega))) | (refine b1 ?_ ?_; focus (first | omega | (simp <;> omega))) | (refine b3 (by assumption) ?_ ?_; focus (first | omega | (simp <;> omega))) | (refine b6 (by assumption) ?_ ?_; focus (first | omega | (simp <;> omega)))))
  clear hW
  go_loopg [6] 12 (fun n i wr => ∃ t : Nat, t + n = 12 ∧ i = .int .i64 t ∧ wr.heap[w.heap.size]? = some (.cells (drow (dgt X)) 88 (0, 0)) ∧ wr.heap[w.heap.size + 1]? = some (.cells (drow (dgt Y)) 88 (0, 0)) ∧ wr.heap[w.heap.size + 1 + 1]? = some (.cells (drow (dgt 0)) 88 (0, 0)) ∧ wr.heap[w.heap.size + 1 + 1 + 1]? = some (.cells (drow (dgt (part12 X Y t 0))) 88 (0, 0)) ∧ Below w.heap.size w wr)
  case atStart => exact ⟨0, by omega, rfl, g0, g1, g2, g3, hB⟩
  case round =>
    clear g0 g1 g2 g3 hB
    obtain ⟨t, ht, rfl, g0, g1, g2, g3, hB⟩ := hrel
    have HT := hid ht
    have ht2 : t ≤ 12 := by omega
    clear ht
    by_cases h12 : t < 12
    · have l5 : (t : Int) < 12 := by omega
      go_wp2_with fail
      go_loopg [7] (12 - t) (fun n k wr => ∃ s : Nat, s + n = 12 - t ∧ k = .int .i64 s ∧ wr.heap[w.heap.size]? = some (.cells (drow (dgt X)) 88 (0, 0)) ∧ wr.heap[w.heap.size + 1]? = some (.cells (drow (dgt Y)) 88 (0, 0)) ∧ wr.heap[w.heap.size + 1 + 1]? = some (.cells (drow (dgt 0)) 88 (0, 0)) ∧ wr.heap[w.heap.size + 1 + 1 + 1]? = some (.cells (drow (dgt (part12 X Y t s))) 88 (0, 0)) ∧ Below w.heap.size w wr)
      case atStart => exact ⟨0, by omega, rfl, g0, g1, g2, g3, hB⟩
      case round =>
        clear g0 g1 g2 g3 hB
        obtain ⟨s, hs, rfl, g0, g1, g2, g3, hB⟩ := hrel
        have HS := hid hs
        have hs2 : t + s ≤ 12 := by omega
        clear hs
        by_cases hts : t + s < 12
        · obtain ⟨V0, hV0⟩ : ∃ V0, V0 = part12 X Y t s := ⟨_, rfl⟩
          rw [← hV0] at g3
          obtain ⟨x, hx⟩ : ∃ x, x = dgt X t := ⟨_, rfl⟩
          obtain ⟨y, hy⟩ : ∃ y, y = dgt Y s := ⟨_, rfl⟩
          obtain ⟨d, hd⟩ : ∃ d, d = dgt V0 (t + s) := ⟨_, rfl⟩
          obtain ⟨p, hp⟩ : ∃ p, p = x * y := ⟨_, rfl⟩
          have hx2 : x ≤ 65535 := by rw [hx]; have := dgt_lt X t; omega
          have hy2 : y ≤ 65535 := by rw [hy]; have := dgt_lt Y s; omega
          have hd2 : d ≤ 65535 := by rw [hd]; have := dgt_lt V0 (t + s); omega
          have hp2 : p ≤ 4294836225 := by rw [hp]; exact Nat.mul_le_mul hx2 hy2
          have hpe : (x : Int) * (y : Int) = (p : Int) := by rw [hp, Int.natCast_mul]
          have c0 := cell_of g0 (drow_get (dgt X) t (by omega))
          have c1 := cell_of g1 (drow_get (dgt Y) s (by omega))
          have c3 := cell_of g3 (drow_get (dgt V0) (t + s) hts)
          rw [← hx] at c0
          rw [← hy] at c1
          rw [← hd] at c3
          have HV : Hid (V0 + p * 65536 ^ (t + s) = part12 X Y t (s + 1)) := by show _ = _; rw [hV0, hp, hx, hy]; exact part_succ X Y t s
          have HD := hid hd
          clear hV0 hx hy hd hp
          have l1 : (t : Int) + (s : Int) < 12 := by omega
          have l2 : (0 : Int) ≤ (t : Int) + (s : Int) := by omega
          have l3 : ((t : Int) + (s : Int)).toNat = t + s := by omega
          have l4 : IntKind.i64.wrap ((t : Int) + (s : Int)) = (t : Int) + (s : Int) := wrap64 _ (by omega) (by omega)
          have l6 : (s : Int) < 12 := by omega
          go_wp2_with fail
          refine Arr.region_tail 14 (by kernel_rfl) (by kernel_rfl) rfl rfl ?_; simp only [List.take_succ_cons, List.take_zero, List.drop_succ_cons, List.drop_zero]; (repeat still_step)
          refine wpStill_nil ?_
          go_wp2_with (first | ((with_reducible refine Arr.arm_store1 Root1.cell36 rfl ?_); refine ⟨rfl, _, _, _, _, _, rfl, rfl, by (with_reducible repeat (first | assumption | (refine p1 ?_; (first | omega | (simp <;> omega))) | (refine p2 ?_ ?_; focus (first | omega | (simp <;> omega))) | refine p3 ?_ | refine p4 ?_ | apply p5 | (refine p6 ?_ ?_; focus (first | omega | (simp <;> omega))) | apply p7 | (refine p8 ?_ ?_; focus (first | omega | (simp <;> omega))) | (refine p9 (by assumption) ?_ ?_; focus (first | omega | (simp <;> omega))) | (refine p10 (by assumption) ?_ ?_; focus (first | omega | (simp <;> omega))))), by (rw [drow_size]; omega), rfl, ?_⟩; (try simp only [Act.put, Act.eval, List.setIfInBounds_toArray, List.set_cons_zero, List.set_cons_succ, Array.getD_eq_getD_getElem?, List.getElem?_toArray, List.getElem?_cons_zero, List.getElem?_cons_succ, Option.getD_some])))
          refine Arr.name_world _ (fun W hW => ?_)
          have q0 : W.heap[w.heap.size]? = some (.cells (drow (dgt X)) 88 (0, 0)) := by rw [hW]; (with_reducible repeat (first | assumption | (refine p1 ?_; (first | omega | (simp <;> omega))) | (refine p2 ?_ ?_; focus (first | omega | (simp <;> omega))) | refine p3 ?_ | refine p4 ?_ | apply p5 | (refine p6 ?_ ?_; focus (first | omega | (simp <;> omega))) | apply p7 | (refine p8 ?_ ?_; focus (first | omega | (simp <;> omega))) | (refine p9 (by assumption) ?_ ?_; focus (first | omega | (simp <;> omega))) | (refine p10 (by assumption) ?_ ?_; focus (first | omega | (simp <;> omega)))))
          have q1 : W.heap[w.heap.size + 1]? = some (.cells (drow (dgt Y)) 88 (0, 0)) := by rw [hW]; (with_reducible repeat (first | assumption | (refine p1 ?_; (first | omega | (simp <;> omega))) | (refine p2 ?_ ?_; focus (first | omega | (simp <;> omega))) | refine p3 ?_ | refine p4 ?_ | apply p5 | (refine p6 ?_ ?_; focus (first | omega | (simp <;> omega))) | apply p7 | (refine p8 ?_ ?_; focus (first | omega | (simp <;> omega))) | (refine p9 (by assumption) ?_ ?_; focus (first | omega | (simp <;> omega))) | (refine p10 (by assumption) ?_ ?_; focus (first | omega | (simp <;> omega)))))
          have q2 : W.heap[w.heap.size + 1 + 1]? = some (.cells (drow (dgt 0)) 88 (0, 0)) := by rw [hW]; (with_reducible repeat (first | assumption | (refine p1 ?_; (first | omega | (simp <;> omega))) | (refine p2 ?_ ?_; focus (first | omega | (simp <;> omega))) | refine p3 ?_ | refine p4 ?_ | apply p5 | (refine p6 ?_ ?_; focus (first | omega | (simp <;> omega))) | apply p7 | (refine p8 ?_ ?_; focus (first | omega | (simp <;> omega))) | (refine p9 (by assumption) ?_ ?_; focus (first | omega | (simp <;> omega))) | (refine p10 (by assumption) ?_ ?_; focus (first | omega | (simp <;> omega)))))
          have q3 : W.heap[w.heap.size + 1 + 1 + 1]? = some (.cells (drow (crow (V0 + p * 65536 ^ (t + s)) (t + s) (dgt V0 (t + s) + p) (V0 / 65536 ^ (t + s + 1)))) 88 (0, 0)) := by
            rw [hW, ← drow_congr _ _ (fun i _ => crow_start V0 p (t + s) i), ← drow_set, ← HD.out, Int.natCast_add]
            (with_reducible repeat (first | assumption | (refine p1 ?_; (first | omega | (simp <;> omega))) | (refine p2 ?_ ?_; focus (first | omega | (simp <;> omega))) | refine p3 ?_ | refine p4 ?_ | apply p5 | (refine p6 ?_ ?_; focus (first | omega | (simp <;> omega))) | apply p7 | (refine p8 ?_ ?_; focus (first | omega | (simp <;> omega))) | (refine p9 (by assumption) ?_ ?_; focus (first | omega | (simp <;> omega))) | (refine p10 (by assumption) ?_ ?_; focus (first | omega | (simp <;> omega)))))
          have qB : Below w.heap.size w W := by rw [hW]; (with_reducible repeat (first | assumption | exact Below.refl _ _ | (refine b4 ?_ ?_; focus (first | omega | (simp <;> omega))) | refine b2 ?_ | refine Below.drew ?_ | (refine b5 ?_ ?_; focus (first | omega | (simp <;> omega))) | (refine b1 ?_ ?_; focus (first | omega | (simp <;> omega))) | (refine b3 (by assumption) ?_ ?_; focus (first | omega | (simp <;> omega))) | (refine b6 (by assumption) ?_ ?_; focus (first | omega | (simp <;> omega)))))
          have hop := crow_open V0 p (t + s)
          rw [HV.out] at q3 hop
          rw [← HD.out] at q3 hop
          obtain ⟨V, hV⟩ : ∃ V, V = part12 X Y t (s + 1) := ⟨_, rfl⟩
          rw [← hV] at q3 hop
          have hVlt : Hid (V < 65536 ^ 12) := by
            show V < _
            rw [hV]
            exact Nat.lt_of_le_of_lt (part_le X Y t (s + 1)) HXY.out
          have HVV := hid hV
          obtain ⟨T0, hT0⟩ : ∃ T0, T0 = V0 / 65536 ^ (t + s + 1) := ⟨_, rfl⟩
          rw [← hT0] at q3 hop
          have HOP := hid hop
          clear hW hV hop hT0 c0 c1 c3 hpe g0 g1 g2 g3 hB
          go_loopg [8] (12 - (t + s)) (fun n k wr => ∃ j c T : Nat, j + n = 12 ∧ j ≤ 11 ∧ k = .int .i64 j ∧ c ≤ 4295032831 ∧ Hid (V / 65536 ^ j = c + 65536 * T) ∧ wr.heap[w.heap.size]? = some (.cells (drow (dgt X)) 88 (0, 0)) ∧ wr.heap[w.heap.size + 1]? = some (.cells (drow (dgt Y)) 88 (0, 0)) ∧ wr.heap[w.heap.size + 1 + 1]? = some (.cells (drow (dgt 0)) 88 (0, 0)) ∧ wr.heap[w.heap.size + 1 + 1 + 1]? = some (.cells (drow (crow V j c T)) 88 (0, 0)) ∧ Below w.heap.size w wr)
          case atStart => exact ⟨t + s, d + p, T0, by omega, by omega, by go_num, by omega, HOP.out, q0, q1, q2, q3, qB⟩
          case round =>
            clear q0 q1 q2 q3 qB HOP
            obtain ⟨j, c, T, hj, hj2, rfl, hc, HC, g0, g1, g2, g3, hB⟩ := hrel
            have HJ := hid hj
            clear hj
            by_cases hbig : 65536 ≤ c
            · have hj11 : j < 11 := by
                rcases Nat.lt_or_ge j 11 with h | h
                · exact h
                · obtain rfl : j = 11 := by omega
                  have := top_small V c T hVlt.out HC.out
                  omega
              obtain ⟨e, he⟩ : ∃ e, e = dgt T 0 := ⟨_, rfl⟩
              have he2 : e ≤ 65535 := by rw [he]; have := dgt_lt T 0; omega
              have c0 := cell_of g3 (drow_get (crow V j c T) j (by omega))
              have c1 := cell_of g3 (drow_get (crow V j c T) (j + 1) (by omega))
              rw [show crow V j c T j = c by unfold crow; rw [if_neg (by omega), if_pos rfl]] at c0
              rw [show crow V j c T (j + 1) = e by unfold crow; rw [if_neg (by omega), if_neg (by omega), he, show j + 1 - j - 1 = 0 by omega]] at c1
              have HE := hid he
              clear he
              have d1 : decide ((j : Int) + 1 < 12) = true := by rw [decide_eq_true_iff]; omega
              have d2 : decide ((65536 : Int) ≤ (c : Int)) = true := by rw [decide_eq_true_iff]; omega
              have l0 : ((j : Int) + 1).toNat = j + 1 := by omega
              have l1 : (j : Int) + 1 < 12 := by omega
              have l2 : (0 : Int) ≤ (j : Int) + 1 := by omega
              have l5 : (j : Int) < 12 := by omega
              have l4 : IntKind.i64.wrap ((j : Int) + 1) = (j : Int) + 1 := wrap64 _ (by omega) (by omega)
              go_wp2_with fail
              refine Arr.region_tail 10 (by kernel_rfl) (by kernel_rfl) rfl rfl ?_; simp only [List.take_succ_cons, List.take_zero, List.drop_succ_cons, List.drop_zero]; (repeat still_step)
              refine wpStill_nil ?_
              go_wp2_with (first | ((with_reducible refine Arr.arm_store1 Root1.cell36 rfl ?_); refine ⟨rfl, _, _, _, _, _, rfl, rfl, by (with_reducible repeat (first | assumption | (refine p1 ?_; (first | omega | (simp <;> omega))) | (refine p2 ?_ ?_; focus (first | omega | (simp <;> omega))) | refine p3 ?_ | refine p4 ?_ | apply p5 | (refine p6 ?_ ?_; focus (first | omega | (simp <;> omega))) | apply p7 | (refine p8 ?_ ?_; focus (first | omega | (simp <;> omega))) | (refine p9 (by assumption) ?_ ?_; focus (first | omega | (simp <;> omega))) | (refine p10 (by assumption) ?_ ?_; focus (first | omega | (simp <;> omega))))), by ((repeat rw [Array.size_setIfInBounds]); rw [drow_size]; omega), rfl, ?_⟩; (try simp only [Act.put, Act.eval, List.setIfInBounds_toArray, List.set_cons_zero, List.set_cons_succ, Array.getD_eq_getD_getElem?, List.getElem?_toArray, List.getElem?_cons_zero, List.getElem?_cons_succ, Option.getD_some])))
              go_roundg (12 - (j + 1))
              case measure => have := HJ.out; omega
              case rel =>
                refine ⟨j + 1, T % 65536 + c / 65536, T / 65536, by omega, by omega, by go_num, by omega, crow_next V j c T HC.out, by (with_reducible repeat (first | assumption | (refine p1 ?_; (first | omega | (simp <;> omega))) | (refine p2 ?_ ?_; focus (first | omega | (simp <;> omega))) | refine p3 ?_ | refine p4 ?_ | apply p5 | (refine p6 ?_ ?_; focus (first | omega | (simp <;> omega))) | apply p7 | (refine p8 ?_ ?_; focus (first | omega | (simp <;> omega))) | (refine p9 (by assumption) ?_ ?_; focus (first | omega | (simp <;> omega))) | (refine p10 (by assumption) ?_ ?_; focus (first | omega | (simp <;> omega))))), by (with_reducible repeat (first | assumption | (refine p1 ?_; (first | omega | (simp <;> omega))) | (refine p2 ?_ ?_; focus (first | omega | (simp <;> omega))) | refine p3 ?_ | refine p4 ?_ | apply p5 | (refine p6 ?_ ?_; focus (first | omega | (simp <;> omega))) | apply p7 | (refine p8 ?_ ?_; focus (first | omega | (simp <;> omega))) | (refine p9 (by assumption) ?_ ?_; focus (first | omega | (simp <;> omega))) | (refine p10 (by assumption) ?_ ?_; focus (first | omega | (simp <;> omega))))), by (with_reducible repeat (first | assumption | (refine p1 ?_; (first | omega | (simp <;> omega))) | (refine p2 ?_ ?_; focus (first | omega | (simp <;> omega))) | refine p3 ?_ | refine p4 ?_ | apply p5 | (refine p6 ?_ ?_; focus (first | omega | (simp <;> omega))) | apply p7 | (refine p8 ?_ ?_; focus (first | omega | (simp <;> omega))) | (refine p9 (by assumption) ?_ ?_; focus (first | omega | (simp <;> omega))) | (refine p10 (by assumption) ?_ ?_; focus (first | omega | (simp <;> omega))))), ?_, by (with_reducible repeat (first | assumption | exact Below.refl _ _ | (refine b4 ?_ ?_; focus (first | omega | (simp <;> omega))) | refine b2 ?_ | refine Below.drew ?_ | (refine b5 ?_ ?_; focus (first | omega | (simp <;> omega))) | (refine b1 ?_ ?_; focus (first | omega | (simp <;> omega))) | (refine b3 (by assumption) ?_ ?_; focus (first | omega | (simp <;> omega))) | (refine b6 (by assumption) ?_ ?_; focus (first | omega | (simp <;> omega)))))⟩
                rw [← drow_store V j c T (e + c / 65536) (c % 65536) HC.out (by rw [HE.out]) rfl]
                have e1 : ((e + c / 65536 : Nat) : Int) = (e : Int) + (c : Int) / 65536 := by omega
                have e2 : ((c % 65536 : Nat) : Int) = (c : Int) % 65536 := by omega
                rw [e1, e2]
                (with_reducible repeat (first | assumption | (refine p1 ?_; (first | omega | (simp <;> omega))) | (refine p2 ?_ ?_; focus (first | omega | (simp <;> omega))) | refine p3 ?_ | refine p4 ?_ | apply p5 | (refine p6 ?_ ?_; focus (first | omega | (simp <;> omega))) | apply p7 | (refine p8 ?_ ?_; focus (first | omega | (simp <;> omega))) | (refine p9 (by assumption) ?_ ?_; focus (first | omega | (simp <;> omega))) | (refine p10 (by assumption) ?_ ?_; focus (first | omega | (simp <;> omega)))))
            · have hc2 : c < 65536 := by omega
              have gV : wr.heap[w.heap.size + 1 + 1 + 1]? = some (.cells (drow (dgt (part12 X Y t (s + 1)))) 88 (0, 0)) := by
                rw [← HVV.out, ← drow_congr _ _ (fun i _ => crow_done V j c T HC.out hc2 i)]; exact g3
              rcases Nat.lt_or_ge j 11 with h11 | h11
              · have c0 := cell_of g3 (drow_get (crow V j c T) j (by omega))
                rw [show crow V j c T j = c by unfold crow; rw [if_neg (by omega), if_pos rfl]] at c0
                have d1 : decide ((j : Int) + 1 < 12) = true := by rw [decide_eq_true_iff]; omega
                have d2 : decide ((65536 : Int) ≤ (c : Int)) = false := by rw [decide_eq_false_iff_not]; omega
                have l0 : ((j : Int) + 1).toNat = j + 1 := by omega
                have l4 : IntKind.i64.wrap ((j : Int) + 1) = (j : Int) + 1 := wrap64 _ (by omega) (by omega)
                go_wp2_with fail
                go_roundg (12 - (t + (s + 1)))
                case measure => have := HS.out; omega
                case rel => exact ⟨s + 1, by omega, by go_num, g0, g1, g2, gV, hB⟩
              · have d1 : decide ((j : Int) + 1 < 12) = false := by rw [decide_eq_false_iff_not]; omega
                have l4 : IntKind.i64.wrap ((j : Int) + 1) = (j : Int) + 1 := wrap64 _ (by omega) (by omega)
                go_wp2_with fail
                go_roundg (12 - (t + (s + 1)))
                case measure => have := HS.out; omega
                case rel => exact ⟨s + 1, by omega, by go_num, g0, g1, g2, gV, hB⟩
        · have e : s = 12 - t := by have := HS.out; omega
          subst e
          rw [part_row X Y t h12 HXY.out] at g3
          have d1 : decide ((t : Int) + ((12 - t : Nat) : Int) < 12) = false := by rw [decide_eq_false_iff_not]; omega
          have l4 : IntKind.i64.wrap ((t : Int) + ((12 - t : Nat) : Int)) = (t : Int) + ((12 - t : Nat) : Int) := wrap64 _ (by omega) (by omega)
          go_wp2_with fail
          go_roundg (12 - (t + 1))
          case measure => have := HT.out; omega
          case rel => exact ⟨t + 1, by omega, by go_num, g0, g1, g2, g3, hB⟩
    · have e : t = 12 := by have := HT.out; omega
      subst e
      rw [part_all X Y HX.out] at g3
      go_wp2_with (first | ((with_reducible refine Arr.arm_load row88 rfl ?_); refine ⟨rfl, _, _, _, _, rfl, by (with_reducible repeat (first | assumption | (refine p1 ?_; (first | omega | (simp <;> omega))) | (refine p2 ?_ ?_; focus (first | omega | (simp <;> omega))) | refine p3 ?_ | refine p4 ?_ | apply p5 | (refine p6 ?_ ?_; focus (first | omega | (simp <;> omega))) | apply p7 | (refine p8 ?_ ?_; focus (first | omega | (simp <;> omega))) | (refine p9 (by assumption) ?_ ?_; focus (first | omega | (simp <;> omega))) | (refine p10 (by assumption) ?_ ?_; focus (first | omega | (simp <;> omega))))), by (exact drow_size _), ?_⟩; skip) | ((with_reducible refine Arr.arm_store row88 rfl ?_); refine ⟨rfl, _, _, _, _, rfl, rfl, by (with_reducible repeat (first | assumption | (refine p1 ?_; (first | omega | (simp <;> omega))) | (refine p2 ?_ ?_; focus (first | omega | (simp <;> omega))) | refine p3 ?_ | refine p4 ?_ | apply p5 | (refine p6 ?_ ?_; focus (first | omega | (simp <;> omega))) | apply p7 | (refine p8 ?_ ?_; focus (first | omega | (simp <;> omega))) | (refine p9 (by assumption) ?_ ?_; focus (first | omega | (simp <;> omega))) | (refine p10 (by assumption) ?_ ?_; focus (first | omega | (simp <;> omega))))), by (exact drow_size _), by (exact drow_size _), by (exact drow_one _), ?_⟩))
      refine Arr.ret_row rfl row88 rfl ⟨_, _, _, _, rfl, by (with_reducible repeat (first | assumption | (refine p1 ?_; (first | omega | (simp <;> omega))) | (refine p2 ?_ ?_; focus (first | omega | (simp <;> omega))) | refine p3 ?_ | refine p4 ?_ | apply p5 | (refine p6 ?_ ?_; focus (first | omega | (simp <;> omega))) | apply p7 | (refine p8 ?_ ?_; focus (first | omega | (simp <;> omega))) | (refine p9 (by assumption) ?_ ?_; focus (first | omega | (simp <;> omega))) | (refine p10 (by assumption) ?_ ?_; focus (first | omega | (simp <;> omega))))), by (exact drow_size _), ?_⟩
      exact ⟨rfl, by (with_reducible repeat (first | assumption | exact Below.refl _ _ | (refine b4 ?_ ?_; focus (first | omega | (simp <;> omega))) | refine b2 ?_ | refine Below.drew ?_ | (refine b5 ?_ ?_; focus (first | omega | (simp <;> omega))) | (refine b1 ?_ ?_; focus (first | omega | (simp <;> omega))) | (refine b3 (by assumption) ?_ ?_; focus (first | omega | (simp <;> omega))) | (refine b6 (by assumption) ?_ ?_; focus (first | omega | (simp <;> omega)))))⟩
end Go.Proofs.YtfkeaglbfembnaaDoor.Root2
