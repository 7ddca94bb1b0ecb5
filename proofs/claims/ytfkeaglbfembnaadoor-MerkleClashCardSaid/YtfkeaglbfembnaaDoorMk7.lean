/- Proofs checked, by the reference. -/
import Derived.WalkKit
import Derived.StillTactics
import Derived.Outline
import Derived.Deep.DeepCutAuto
import Derived.Deep.CutBlock
import Derived.Test.YtfkeaglbfembnaaDoorMk6
namespace Go.Proofs.YtfkeaglbfembnaaDoor.Mk7
open Go Go.RowKit Go.Proofs.YtfkeaglbfembnaaDoor.Arr Go.Proofs.YtfkeaglbfembnaaDoor.Mid Go.Proofs.YtfkeaglbfembnaaDoor.App Go.Proofs.YtfkeaglbfembnaaDoor.Sha1 Go.Proofs.YtfkeaglbfembnaaDoor.Sha2 Go.Proofs.YtfkeaglbfembnaaDoor.Sha4 Go.Proofs.YtfkeaglbfembnaaDoor.Sha5 Go.Proofs.YtfkeaglbfembnaaDoor.Sha6 Go.Proofs.YtfkeaglbfembnaaDoor.Sha7 Go.Proofs.YtfkeaglbfembnaaDoor.Sha8 Go.Proofs.YtfkeaglbfembnaaDoor.Sha9 Go.Proofs.YtfkeaglbfembnaaDoor.Sha10 Go.Proofs.YtfkeaglbfembnaaDoor.Sha12 Go.Proofs.YtfkeaglbfembnaaDoor.Sha13 Go.Proofs.YtfkeaglbfembnaaDoor.Sha17 Go.Proofs.YtfkeaglbfembnaaDoor.Mk1 Go.Proofs.YtfkeaglbfembnaaDoor.Mk2 Go.Proofs.YtfkeaglbfembnaaDoor.Mk3 Go.Proofs.YtfkeaglbfembnaaDoor.Mk4 Go.Proofs.YtfkeaglbfembnaaDoor.Mk5 Go.Proofs.YtfkeaglbfembnaaDoor.Mk6
set_option maxRecDepth 100000
set_option linter.unusedVariables false
set_option linter.unusedSimpArgs false
section
variable {P : Program}
/-- A whole array out of the midst of a block is loaded first, where what is held keeps it. -/
theorem held_loadm {l : List Oper} {Q : Exit → Act → World → Prop} {S : World → Prop} {fuel : Nat} {listed : Array Bool} {a : Act} {w : World} (i : Nat) {oi : Oper} {ty : TypeId} {n : Nat} (hrt : RowTy P ty n) {x : Operand} (hi : l[i]? = some oi) (ho : oi.op = .load ty x) (hg : oi.guard = none)
    (hs : Region.noSelect l.toArray = true) (hf : Region.free .any l.toArray listed i = true) (hr : (Region.ready .any l.toArray listed).contains i = true)
    (hQ' : ∀ c a v w, Q (.panic c) (a.put oi.dst v) w → Q (.panic c) a w) (hS : S w)
    (h : ∃ g o cs, a.eval x = .pointer (some ⟨g, o, none⟩) ∧ (∀ w, S w → ∀ j v, cs[j]? = some v → w.cell? ⟨g, o + j, none⟩ = some v) ∧ cs.size = n ∧ wpAnyH P .any l.toArray Q S fuel (listed.setIfInBounds i true) (a.put oi.dst (.agg cs)) w) : wpAnyH P .any l.toArray Q S (fuel + 1) listed a w := by
  obtain ⟨g, o, cs, hx, hc, hn, h⟩ := h
  obtain ⟨d, hu, hd, hi2⟩ := hrt
  refine wpAnyH_take (by simpa using hi) hs hf hr (fun c a' w' q => hQ' c a' _ w' q) (.inl ⟨by simp [Region.wanted, hg], fun w' hS' => ?_⟩) hS h
  have hl := run_loadVar_mid (P := P) w' g o ty cs.toList d (fun j v hv => hc w' hS' j v (by simpa using hv)) hu (by cases d <;> simp_all [isRowD, TypeDesc.isRow]) (by rw [hi2]; simp [hn])
  rw [show cs.toList.toArray = cs by simp] at hl
  simp only [execOp, ho, hx, Instr.loadAt, Instr.sureAddr, Sem.run_bind, Sem.run_pure, Result.andThen_ok, hl]
end
theorem OwnB.row {w : World} {base : Nat} {v : Value} {l : List Bool} (h : OwnB w base v l) : ∃ A c, v = .slice A l.length c ∧ l.length ≤ c ∧ (0 < l.length → ∃ g cur, A = some ⟨g, 0, none⟩ ∧ base ≤ g ∧ w.heap[g]? = some (.cells cur 4 (0, 0)) ∧ ∀ i, i < l.length → cur[i]? = some (.bool (l.getD i false))) := by
  rcases h.2 with ⟨rfl, h0⟩ | ⟨g, cap, cur, rfl, hb, hg, hc, _, hs, ht⟩
  · exact ⟨none, 0, by rw [h0], by omega, fun h1 => by omega⟩
  · refine ⟨some ⟨g, 0, none⟩, cap, rfl, hc, fun _ => ⟨g, cur, rfl, hb, hg, fun i hi => ?_⟩⟩
    have e : (l.map Value.bool)[i]? = some (.bool (l.getD i false)) := by
      rw [List.getElem?_map, List.getElem?_eq_getElem hi, List.getD_eq_getElem?_getD, List.getElem?_eq_getElem hi]; rfl
    rw [← ht, List.getElem?_take, if_pos (by omega), Array.getElem?_toList] at e
    exact e
theorem DSl.cells {w W : World} {b o m k : Nat} {f : Nat → Dig} (hcell : ∀ k, k < m → ∀ i, i < 32 → w.cell? ⟨b, o + 32 * k + i, none⟩ = some (by8 (f k i))) (hk : k < m) {C : Nat} (hW : Below C w W) (hb : b < C) : ∀ j v, (brow 32 (f k))[j]? = some v → W.cell? ⟨b, o + k * 32 + j, none⟩ = some v := by
  intro j v hv
  have hj : j < 32 := by have := (Array.getElem?_eq_some_iff.1 hv).1; rw [brow_size] at this; exact this
  rw [brow_get 32 (f k) j hj] at hv
  rw [← hv, show o + k * 32 + j = o + 32 * k + j by omega]
  exact (cell_below hW b _ hb).trans (hcell k hk j hj)
set_option maxHeartbeats 8000000 in
theorem c_refCheck (root : Dig) (f : Nat → Dig) (T A : Option Addr) (t : Bytes8) (ct m cap B : Nat) (i n : Int) (w : World) (hB : B ≤ w.heap.size) (ht : BSl w B T t) (htl : t.length < 1000000000000) (hm : m ≤ cap) (hml : m ≤ 1000000) (hd : DSl w B A m f) :
    Calls Tryd.prog 30 #[.agg (brow 32 root), .slice T t.length ct, .int .i64 i, .int .i64 n, .slice A m cap] w fun e w' => e = .returned (.bool (checkZ root t f m i n)) ∧ Below w.heap.size w w' := by
  have z26 := zero26
  have ev := eql26
  have hug := unguarded26
  by_cases h1 : i < 0
  · rw [checkZ_out _ _ _ _ _ _ (.inl h1)]
    have d1 : decide (i < 0) = true := decide_eq_true h1
    go_enter Tryd.func30, Tryd.ntmps30
    go_wp2_with fail
    go_ret
    exact ⟨rfl, by (with_reducible repeat (first | assumption | exact Below.refl _ _ | (refine b4 ?_ ?_; focus (first | omega | (simp <;> omega))) | refine b2 ?_ | refine Below.drew ?_ | (refine b5 ?_ ?_; focus (first | omega | (simp <;> omega))) | (refine b1 ?_ ?_; focus (first | omega | (simp <;> omega))) | (refine b3 (by assumption) ?_ ?_; focus (first | omega | (simp <;> omega))) | (refine b6 (by assumption) ?_ ?_; focus (first | omega | (simp <;> omega)))))⟩
  · have d1 : decide (i < 0) = false := decide_eq_false h1
    by_cases h2 : n ≤ i
    · rw [checkZ_out _ _ _ _ _ _ (.inr (.inl h2))]
      have d2 : decide (n ≤ i) = true := decide_eq_true h2
      go_enter Tryd.func30, Tryd.ntmps30
      go_wp2_with fail
      go_ret
      exact ⟨rfl, by (with_reducible repeat (first | assumption | exact Below.refl _ _ | (refine b4 ?_ ?_; focus (first | omega | (simp <;> omega))) | refine b2 ?_ | refine Below.drew ?_ | (refine b5 ?_ ?_; focus (first | omega | (simp <;> omega))) | (refine b1 ?_ ?_; focus (first | omega | (simp <;> omega))) | (refine b3 (by assumption) ?_ ?_; focus (first | omega | (simp <;> omega))) | (refine b6 (by assumption) ?_ ?_; focus (first | omega | (simp <;> omega)))))⟩
    · have d2 : decide (n ≤ i) = false := decide_eq_false h2
      by_cases h3 : 1048576 < n
      · rw [checkZ_out _ _ _ _ _ _ (.inr (.inr h3))]
        have d3 : decide (1048576 < n) = true := decide_eq_true h3
        go_enter Tryd.func30, Tryd.ntmps30
        go_wp2_with fail
        go_ret
        exact ⟨rfl, by (with_reducible repeat (first | assumption | exact Below.refl _ _ | (refine b4 ?_ ?_; focus (first | omega | (simp <;> omega))) | refine b2 ?_ | refine Below.drew ?_ | (refine b5 ?_ ?_; focus (first | omega | (simp <;> omega))) | (refine b1 ?_ ?_; focus (first | omega | (simp <;> omega))) | (refine b3 (by assumption) ?_ ?_; focus (first | omega | (simp <;> omega))) | (refine b6 (by assumption) ?_ ?_; focus (first | omega | (simp <;> omega)))))⟩
      · have d3 : decide (1048576 < n) = false := decide_eq_false h3
        obtain ⟨I, rfl⟩ : ∃ I : Nat, i = I := ⟨i.toNat, by omega⟩
        obtain ⟨N, rfl⟩ : ∃ N : Nat, n = N := ⟨n.toNat, by omega⟩
        rw [checkZ_in _ _ _ _ _ _ (by omega) (by omega)]
        unfold checkB
        obtain ⟨D, hD⟩ : ∃ D, D = leafD t := ⟨_, rfl⟩
        rw [← hD]
        have C37 : Hid (∀ W : World, Below w.heap.size w W → Calls Tryd.prog 37 #[.slice T t.length ct] W fun e w' => e = .returned (.agg (brow 32 D)) ∧ Below W.heap.size W w') := by
          intro W hW; rw [hD]
          exact c_refLeaf T t ct B W (Nat.le_trans hB hW.size) (ht.below hW hB) htl
        clear hD
        obtain ⟨l1, l2⟩ := lead_chk D f m I N (by omega)
        rw [l1]
        obtain ⟨S, hS⟩ : ∃ S, S = steps I N := ⟨_, rfl⟩
        have C48 : Hid (∀ W : World, Calls Tryd.prog 48 #[.int .i64 I, .int .i64 N] W (RetBools W S)) := by
          intro W; rw [hS]; exact c_steps I N (by omega) (by omega) W
        rw [← hS] at l2 ⊢
        clear hS l1
        by_cases hSm : S.length = m
        · rw [l2 hSm, decide_eq_true hSm, Bool.true_and]
          have HSM := hid hSm
          have dm : ((S.length : Int) != (m : Int)) = false := by simp [hSm]
          clear l2
          go_enter Tryd.func30, Tryd.ntmps30
          go_wp2_with (first | (go_at_call 48; (with_reducible refine (C48.out _).mono ?_); rintro e w1 ⟨v, rfl, hO, hb1⟩; have hz1 := hb1.size; (try simp only [World.size_alloc] at hz1); obtain ⟨A1, c1, rfl, hc1, hrow⟩ := OwnB.row hO) | (go_at_call 37; (with_reducible refine (C37.out _ (by (with_reducible repeat (first | assumption | exact Below.refl _ _ | (refine b4 ?_ ?_; focus (first | omega | (simp <;> omega))) | refine b2 ?_ | refine Below.drew ?_ | (refine b5 ?_ ?_; focus (first | omega | (simp <;> omega))) | (refine b1 ?_ ?_; focus (first | omega | (simp <;> omega))) | (refine b3 (by assumption) ?_ ?_; focus (first | omega | (simp <;> omega))) | (refine b6 (by assumption) ?_ ?_; focus (first | omega | (simp <;> omega))))))).mono ?_); rintro e w2 ⟨rfl, hb2⟩; have hz2 := hb2.size) | ((with_reducible refine Arr.arm_store row26 rfl ?_); refine ⟨rfl, _, _, _, _, rfl, rfl, by (with_reducible repeat (first | assumption | (refine p1 ?_; (first | omega | (simp <;> omega))) | (refine p2 ?_ ?_; focus (first | omega | (simp <;> omega))) | refine p3 ?_ | refine p4 ?_ | apply p5 | (refine p6 ?_ ?_; focus (first | omega | (simp <;> omega))) | apply p7 | (refine p8 ?_ ?_; focus (first | omega | (simp <;> omega))) | (refine p9 (by assumption) ?_ ?_; focus (first | omega | (simp <;> omega))) | (refine p10 (by assumption) ?_ ?_; focus (first | omega | (simp <;> omega))))), by (exact brow_size _ _), by (exact brow_size _ _), by (exact brow_one _ _), ?_⟩))
          refine name_world _ fun W0 hW0 => ?_
          have f0 : W0.heap[w.heap.size]? = some (.cells (brow 32 root) 26 (0, 0)) := by rw [hW0]; (with_reducible repeat (first | assumption | (refine p1 ?_; (first | omega | (simp <;> omega))) | (refine p2 ?_ ?_; focus (first | omega | (simp <;> omega))) | refine p3 ?_ | refine p4 ?_ | apply p5 | (refine p6 ?_ ?_; focus (first | omega | (simp <;> omega))) | apply p7 | (refine p8 ?_ ?_; focus (first | omega | (simp <;> omega))) | (refine p9 (by assumption) ?_ ?_; focus (first | omega | (simp <;> omega))) | (refine p10 (by assumption) ?_ ?_; focus (first | omega | (simp <;> omega)))))
          have f1 : W0.heap[w2.heap.size]? = some (.cells (brow 32 (chkF S f D 0)) 26 (0, 0)) := by rw [hW0]; exact (show _ from by unfold chkF; (with_reducible repeat (first | assumption | (refine p1 ?_; (first | omega | (simp <;> omega))) | (refine p2 ?_ ?_; focus (first | omega | (simp <;> omega))) | refine p3 ?_ | refine p4 ?_ | apply p5 | (refine p6 ?_ ?_; focus (first | omega | (simp <;> omega))) | apply p7 | (refine p8 ?_ ?_; focus (first | omega | (simp <;> omega))) | (refine p9 (by assumption) ?_ ?_; focus (first | omega | (simp <;> omega))) | (refine p10 (by assumption) ?_ ?_; focus (first | omega | (simp <;> omega))))))
          have hB0 : Below w.heap.size w W0 := by rw [hW0]; (with_reducible repeat (first | assumption | exact Below.refl _ _ | (refine b4 ?_ ?_; focus (first | omega | (simp <;> omega))) | refine b2 ?_ | refine Below.drew ?_ | (refine b5 ?_ ?_; focus (first | omega | (simp <;> omega))) | (refine b1 ?_ ?_; focus (first | omega | (simp <;> omega))) | (refine b3 (by assumption) ?_ ?_; focus (first | omega | (simp <;> omega))) | (refine b6 (by assumption) ?_ ?_; focus (first | omega | (simp <;> omega)))))
          obtain ⟨q, hq⟩ : ∃ q, q = w2.heap.size := ⟨_, rfl⟩
          have hq1 : w.heap.size + 1 ≤ q := by omega
          obtain ⟨g, cur, hgr⟩ : ∃ g cur, 0 < m → A1 = some ⟨g, 0, none⟩ ∧ w.heap.size + 1 ≤ g ∧ g < q ∧ W0.heap[g]? = some (.cells cur 4 (0, 0)) ∧ ∀ i, i < m → cur[i]? = some (.bool (S.getD i false)) := by
            by_cases h0 : 0 < m
            · obtain ⟨g, cur, e, hg, hh, hx⟩ := hrow (by omega)
              have hgl := lt_of hh
              simp only [World.size_alloc] at hg
              exact ⟨g, cur, fun _ => ⟨e, hg, by omega, by rw [hW0]; (with_reducible repeat (first | assumption | (refine p1 ?_; (first | omega | (simp <;> omega))) | (refine p2 ?_ ?_; focus (first | omega | (simp <;> omega))) | refine p3 ?_ | refine p4 ?_ | apply p5 | (refine p6 ?_ ?_; focus (first | omega | (simp <;> omega))) | apply p7 | (refine p8 ?_ ?_; focus (first | omega | (simp <;> omega))) | (refine p9 (by assumption) ?_ ?_; focus (first | omega | (simp <;> omega))) | (refine p10 (by assumption) ?_ ?_; focus (first | omega | (simp <;> omega))))), fun i hi => hx i (by omega)⟩⟩
            · exact ⟨0, #[], fun h => absurd h h0⟩
          rw [hSm] at hc1
          (try rw [hSm])
          rw [← hq] at f1 ⊢
          have hgw : 0 < m → W0.heap[g]? = some (.cells cur 4 (0, 0)) := fun h0 => (hgr h0).2.2.2.1
          have hgs : 0 < m → A1 = some ⟨g, 0, none⟩ ∧ w.heap.size + 1 ≤ g ∧ g < q ∧ ∀ i, i < m → cur[i]? = some (.bool (S.getD i false)) := fun h0 => ⟨(hgr h0).1, (hgr h0).2.1, (hgr h0).2.2.1, (hgr h0).2.2.2.2⟩
          clear hW0 hq hb1 hb2 hO hrow hgr hSm hz1 hz2 dm
          go_loopg [13] m (fun n z wr => ∃ k : Nat, k + n = m ∧ z = .int .i64 k ∧ wr.heap[w.heap.size]? = some (.cells (brow 32 root) 26 (0, 0)) ∧ wr.heap[q]? = some (.cells (brow 32 (chkF S f D k)) 26 (0, 0)) ∧ (0 < m → wr.heap[g]? = some (.cells cur 4 (0, 0))) ∧ Below w.heap.size w wr)
          case atStart => exact ⟨0, by omega, rfl, f0, f1, hgw, hB0⟩
          case round =>
            clear f0 f1 hgw hB0
            obtain ⟨k, hk, rfl, f0, f1, hgw, hB0⟩ := hrel
            have HKM := hid hk
            have hkle : k ≤ m := by omega
            clear hk
            have hzz := hB0.size
            have hql := lt_of f1
            by_cases hkm : k < m
            · obtain ⟨rfl, hg1, hg2, hx⟩ := hgs (by omega)
              have hgc := hgw (by omega)
              obtain ⟨b, o, rfl, hbB, hcell⟩ := hd (by omega)
              have hbl : b < w.heap.size := by omega
              obtain ⟨J, hJ⟩ : ∃ J, J = m - 1 - k := ⟨_, rfl⟩
              have d4 : decide ((k : Int) < (m : Int)) = true := by rw [decide_eq_true_iff]; omega
              have lA : IntKind.i64.wrap ((m : Int) - 1) = (m : Int) - 1 := wrap64 _ (by omega) (by omega)
              have lB : IntKind.i64.wrap ((m : Int) - 1 - (k : Int)) = (J : Int) := by rw [show (m : Int) - 1 - (k : Int) = (J : Int) by omega]; exact wrap64 _ (by omega) (by omega)
              have lC : (0 : Int) ≤ (J : Int) := by omega
              have lD : (J : Int) < (m : Int) := by omega
              have lE : (0 : Int) ≤ (k : Int) := by omega
              have lF : (k : Int) < (m : Int) := by omega
              have c1 := cell_of hgc (hx J (by omega))
              have HJ := hid hJ
              clear hJ
              rcases hbit : S.getD J false with _ | _
              · have hstep : Hid (chkF S f D (k + 1) = nodeD (chkF S f D k) (f k)) := by
                  show _ = _
                  rw [chkF, HSM.out, ← HJ.out, hbit, if_neg (by decide)]
                rw [hbit] at c1
                clear hbit
                go_upto_region 12 with fail
                refine name_world _ fun W1 hW1 => ?_
                subst hW1
                obtain ⟨E, hE⟩ : ∃ E, E = chkF S f D k := ⟨_, rfl⟩
                rw [← hE] at f1 hstep
                have HE := hid hE
                clear hE
                refine Arr.held_begin (m := 7) (fun w' => Below w.heap.size w w') (by kernel_rfl) rfl ?_
                refine Arr.held_move 1 rfl rfl rfl (by kernel_rfl) (by kernel_rfl) (by kernel_rfl) (fun _ _ _ _ h => h) (by (with_reducible repeat (first | assumption | exact Below.refl _ _ | (refine b4 ?_ ?_; focus (first | omega | (simp <;> omega))) | refine b2 ?_ | refine Below.drew ?_ | (refine b5 ?_ ?_; focus (first | omega | (simp <;> omega))) | (refine b1 ?_ ?_; focus (first | omega | (simp <;> omega))) | (refine b3 (by assumption) ?_ ?_; focus (first | omega | (simp <;> omega))) | (refine b6 (by assumption) ?_ ?_; focus (first | omega | (simp <;> omega)))))) ?_
                refine Arr.held_move 2 rfl rfl rfl (by kernel_rfl) (by kernel_rfl) (by kernel_rfl) (fun _ _ _ _ h => h) (by (with_reducible repeat (first | assumption | exact Below.refl _ _ | (refine b4 ?_ ?_; focus (first | omega | (simp <;> omega))) | refine b2 ?_ | refine Below.drew ?_ | (refine b5 ?_ ?_; focus (first | omega | (simp <;> omega))) | (refine b1 ?_ ?_; focus (first | omega | (simp <;> omega))) | (refine b3 (by assumption) ?_ ?_; focus (first | omega | (simp <;> omega))) | (refine b6 (by assumption) ?_ ?_; focus (first | omega | (simp <;> omega)))))) ?_
                simp only [Act.put, Act.eval, List.setIfInBounds_toArray, List.set_cons_zero, List.set_cons_succ, Array.getD_eq_getD_getElem?, List.getElem?_toArray, List.getElem?_cons_zero, List.getElem?_cons_succ, Option.getD_some]
                (refine Arr.held_pure (v := ?_) 3 rfl rfl (by kernel_rfl) (by kernel_rfl) (by kernel_rfl) (fun _ _ _ _ h => h) (by (with_reducible repeat (first | assumption | exact Below.refl _ _ | (refine b4 ?_ ?_; focus (first | omega | (simp <;> omega))) | refine b2 ?_ | refine Below.drew ?_ | (refine b5 ?_ ?_; focus (first | omega | (simp <;> omega))) | (refine b1 ?_ ?_; focus (first | omega | (simp <;> omega))) | (refine b3 (by assumption) ?_ ?_; focus (first | omega | (simp <;> omega))) | (refine b6 (by assumption) ?_ ?_; focus (first | omega | (simp <;> omega)))))) ?_ ?_; rotate_left; (focus (intro w hSw; go_simp; (try with_reducible rfl))); simp only [Act.put, Act.eval, List.setIfInBounds_toArray, List.set_cons_zero, List.set_cons_succ, Array.getD_eq_getD_getElem?, List.getElem?_toArray, List.getElem?_cons_zero, List.getElem?_cons_succ, Option.getD_some])
                refine held_loadm 4 row26 rfl rfl rfl (by kernel_rfl) (by kernel_rfl) (by kernel_rfl) (fun _ _ _ _ h => h) (by (with_reducible repeat (first | assumption | exact Below.refl _ _ | (refine b4 ?_ ?_; focus (first | omega | (simp <;> omega))) | refine b2 ?_ | refine Below.drew ?_ | (refine b5 ?_ ?_; focus (first | omega | (simp <;> omega))) | (refine b1 ?_ ?_; focus (first | omega | (simp <;> omega))) | (refine b3 (by assumption) ?_ ?_; focus (first | omega | (simp <;> omega))) | (refine b6 (by assumption) ?_ ?_; focus (first | omega | (simp <;> omega)))))) ⟨_, _, brow 32 (f k), rfl, fun w h => DSl.cells hcell hkm h hbl, brow_size _ _, ?_⟩
                (try simp only [Act.put, Act.eval, List.setIfInBounds_toArray, List.set_cons_zero, List.set_cons_succ, Array.getD_eq_getD_getElem?, List.getElem?_toArray, List.getElem?_cons_zero, List.getElem?_cons_succ, Option.getD_some])
                (refine Arr.held_step [0] (by kernel_rfl) (by simp) ?_; refine List.forall_mem_cons.2 ⟨⟨_, rfl, ?_⟩, fun _ h => absurd h List.not_mem_nil⟩; go_wp2_with (((with_reducible refine Arr.arm_load row26 rfl ?_); refine ⟨rfl, _, _, _, _, rfl, by (with_reducible repeat (first | assumption | (refine p1 ?_; (first | omega | (simp <;> omega))) | (refine p2 ?_ ?_; focus (first | omega | (simp <;> omega))) | refine p3 ?_ | refine p4 ?_ | apply p5 | (refine p6 ?_ ?_; focus (first | omega | (simp <;> omega))) | apply p7 | (refine p8 ?_ ?_; focus (first | omega | (simp <;> omega))) | (refine p9 (by assumption) ?_ ?_; focus (first | omega | (simp <;> omega))) | (refine p10 (by assumption) ?_ ?_; focus (first | omega | (simp <;> omega))))), by (exact brow_size _ _), ?_⟩; skip)); refine ⟨by (with_reducible repeat (first | assumption | exact Below.refl _ _ | (refine b4 ?_ ?_; focus (first | omega | (simp <;> omega))) | refine b2 ?_ | refine Below.drew ?_ | (refine b5 ?_ ?_; focus (first | omega | (simp <;> omega))) | (refine b1 ?_ ?_; focus (first | omega | (simp <;> omega))) | (refine b3 (by assumption) ?_ ?_; focus (first | omega | (simp <;> omega))) | (refine b6 (by assumption) ?_ ?_; focus (first | omega | (simp <;> omega))))), ?_⟩)
                (refine Arr.held_step [5] (by kernel_rfl) (by simp) ?_; refine List.forall_mem_cons.2 ⟨⟨_, rfl, ?_⟩, fun _ h => absurd h List.not_mem_nil⟩; go_wp2_with ((go_at_call 49; (with_reducible refine (c_refNode E (f k) _).mono ?_); rintro e w5 ⟨rfl, hb5⟩; have hz5 := hb5.size; (try simp only [World.size_alloc, World.size_drew] at hz5))); refine ⟨by (with_reducible repeat (first | assumption | exact Below.refl _ _ | (refine b4 ?_ ?_; focus (first | omega | (simp <;> omega))) | refine b2 ?_ | refine Below.drew ?_ | (refine b5 ?_ ?_; focus (first | omega | (simp <;> omega))) | (refine b1 ?_ ?_; focus (first | omega | (simp <;> omega))) | (refine b3 (by assumption) ?_ ?_; focus (first | omega | (simp <;> omega))) | (refine b6 (by assumption) ?_ ?_; focus (first | omega | (simp <;> omega))))), ?_⟩)
                (refine Arr.held_step [6] (by kernel_rfl) (by simp) ?_; refine List.forall_mem_cons.2 ⟨⟨_, rfl, ?_⟩, fun _ h => absurd h List.not_mem_nil⟩; go_wp2_with (((with_reducible refine Arr.arm_store row26 rfl ?_); refine ⟨rfl, _, _, _, _, rfl, rfl, by (with_reducible repeat (first | assumption | (refine p1 ?_; (first | omega | (simp <;> omega))) | (refine p2 ?_ ?_; focus (first | omega | (simp <;> omega))) | refine p3 ?_ | refine p4 ?_ | apply p5 | (refine p6 ?_ ?_; focus (first | omega | (simp <;> omega))) | apply p7 | (refine p8 ?_ ?_; focus (first | omega | (simp <;> omega))) | (refine p9 (by assumption) ?_ ?_; focus (first | omega | (simp <;> omega))) | (refine p10 (by assumption) ?_ ?_; focus (first | omega | (simp <;> omega))))), by (exact brow_size _ _), by (exact brow_size _ _), by (exact brow_one _ _), ?_⟩)); refine ⟨by (with_reducible repeat (first | assumption | exact Below.refl _ _ | (refine b4 ?_ ?_; focus (first | omega | (simp <;> omega))) | refine b2 ?_ | refine Below.drew ?_ | (refine b5 ?_ ?_; focus (first | omega | (simp <;> omega))) | (refine b1 ?_ ?_; focus (first | omega | (simp <;> omega))) | (refine b3 (by assumption) ?_ ?_; focus (first | omega | (simp <;> omega))) | (refine b6 (by assumption) ?_ ?_; focus (first | omega | (simp <;> omega))))), ?_⟩)
                refine wpAnyH_done (by kernel_rfl) ?_ _
                go_wp2
                go_roundg (m - (k + 1))
                case measure => have := HKM.out; omega
                case rel => exact ⟨k + 1, by omega, by go_num, by (with_reducible repeat (first | assumption | (refine p1 ?_; (first | omega | (simp <;> omega))) | (refine p2 ?_ ?_; focus (first | omega | (simp <;> omega))) | refine p3 ?_ | refine p4 ?_ | apply p5 | (refine p6 ?_ ?_; focus (first | omega | (simp <;> omega))) | apply p7 | (refine p8 ?_ ?_; focus (first | omega | (simp <;> omega))) | (refine p9 (by assumption) ?_ ?_; focus (first | omega | (simp <;> omega))) | (refine p10 (by assumption) ?_ ?_; focus (first | omega | (simp <;> omega))))), by rw [hstep.out]; (with_reducible repeat (first | assumption | (refine p1 ?_; (first | omega | (simp <;> omega))) | (refine p2 ?_ ?_; focus (first | omega | (simp <;> omega))) | refine p3 ?_ | refine p4 ?_ | apply p5 | (refine p6 ?_ ?_; focus (first | omega | (simp <;> omega))) | apply p7 | (refine p8 ?_ ?_; focus (first | omega | (simp <;> omega))) | (refine p9 (by assumption) ?_ ?_; focus (first | omega | (simp <;> omega))) | (refine p10 (by assumption) ?_ ?_; focus (first | omega | (simp <;> omega))))), fun _ => by (with_reducible repeat (first | assumption | (refine p1 ?_; (first | omega | (simp <;> omega))) | (refine p2 ?_ ?_; focus (first | omega | (simp <;> omega))) | refine p3 ?_ | refine p4 ?_ | apply p5 | (refine p6 ?_ ?_; focus (first | omega | (simp <;> omega))) | apply p7 | (refine p8 ?_ ?_; focus (first | omega | (simp <;> omega))) | (refine p9 (by assumption) ?_ ?_; focus (first | omega | (simp <;> omega))) | (refine p10 (by assumption) ?_ ?_; focus (first | omega | (simp <;> omega))))), by (with_reducible repeat (first | assumption | exact Below.refl _ _ | (refine b4 ?_ ?_; focus (first | omega | (simp <;> omega))) | refine b2 ?_ | refine Below.drew ?_ | (refine b5 ?_ ?_; focus (first | omega | (simp <;> omega))) | (refine b1 ?_ ?_; focus (first | omega | (simp <;> omega))) | (refine b3 (by assumption) ?_ ?_; focus (first | omega | (simp <;> omega))) | (refine b6 (by assumption) ?_ ?_; focus (first | omega | (simp <;> omega)))))⟩
              · have hstep : Hid (chkF S f D (k + 1) = nodeD (f k) (chkF S f D k)) := by
                  show _ = _
                  rw [chkF, HSM.out, ← HJ.out, hbit, if_pos rfl]
                rw [hbit] at c1
                clear hbit
                go_upto_region 11 with fail
                refine name_world _ fun W1 hW1 => ?_
                subst hW1
                obtain ⟨E, hE⟩ : ∃ E, E = chkF S f D k := ⟨_, rfl⟩
                rw [← hE] at f1 hstep
                have HE := hid hE
                clear hE
                refine Arr.held_begin (m := 7) (fun w' => Below w.heap.size w w') (by kernel_rfl) rfl ?_
                refine Arr.held_move 0 rfl rfl rfl (by kernel_rfl) (by kernel_rfl) (by kernel_rfl) (fun _ _ _ _ h => h) (by (with_reducible repeat (first | assumption | exact Below.refl _ _ | (refine b4 ?_ ?_; focus (first | omega | (simp <;> omega))) | refine b2 ?_ | refine Below.drew ?_ | (refine b5 ?_ ?_; focus (first | omega | (simp <;> omega))) | (refine b1 ?_ ?_; focus (first | omega | (simp <;> omega))) | (refine b3 (by assumption) ?_ ?_; focus (first | omega | (simp <;> omega))) | (refine b6 (by assumption) ?_ ?_; focus (first | omega | (simp <;> omega)))))) ?_
                refine Arr.held_move 1 rfl rfl rfl (by kernel_rfl) (by kernel_rfl) (by kernel_rfl) (fun _ _ _ _ h => h) (by (with_reducible repeat (first | assumption | exact Below.refl _ _ | (refine b4 ?_ ?_; focus (first | omega | (simp <;> omega))) | refine b2 ?_ | refine Below.drew ?_ | (refine b5 ?_ ?_; focus (first | omega | (simp <;> omega))) | (refine b1 ?_ ?_; focus (first | omega | (simp <;> omega))) | (refine b3 (by assumption) ?_ ?_; focus (first | omega | (simp <;> omega))) | (refine b6 (by assumption) ?_ ?_; focus (first | omega | (simp <;> omega)))))) ?_
                simp only [Act.put, Act.eval, List.setIfInBounds_toArray, List.set_cons_zero, List.set_cons_succ, Array.getD_eq_getD_getElem?, List.getElem?_toArray, List.getElem?_cons_zero, List.getElem?_cons_succ, Option.getD_some]
                (refine Arr.held_pure (v := ?_) 2 rfl rfl (by kernel_rfl) (by kernel_rfl) (by kernel_rfl) (fun _ _ _ _ h => h) (by (with_reducible repeat (first | assumption | exact Below.refl _ _ | (refine b4 ?_ ?_; focus (first | omega | (simp <;> omega))) | refine b2 ?_ | refine Below.drew ?_ | (refine b5 ?_ ?_; focus (first | omega | (simp <;> omega))) | (refine b1 ?_ ?_; focus (first | omega | (simp <;> omega))) | (refine b3 (by assumption) ?_ ?_; focus (first | omega | (simp <;> omega))) | (refine b6 (by assumption) ?_ ?_; focus (first | omega | (simp <;> omega)))))) ?_ ?_; rotate_left; (focus (intro w hSw; go_simp; (try with_reducible rfl))); simp only [Act.put, Act.eval, List.setIfInBounds_toArray, List.set_cons_zero, List.set_cons_succ, Array.getD_eq_getD_getElem?, List.getElem?_toArray, List.getElem?_cons_zero, List.getElem?_cons_succ, Option.getD_some])
                refine held_loadm 3 row26 rfl rfl rfl (by kernel_rfl) (by kernel_rfl) (by kernel_rfl) (fun _ _ _ _ h => h) (by (with_reducible repeat (first | assumption | exact Below.refl _ _ | (refine b4 ?_ ?_; focus (first | omega | (simp <;> omega))) | refine b2 ?_ | refine Below.drew ?_ | (refine b5 ?_ ?_; focus (first | omega | (simp <;> omega))) | (refine b1 ?_ ?_; focus (first | omega | (simp <;> omega))) | (refine b3 (by assumption) ?_ ?_; focus (first | omega | (simp <;> omega))) | (refine b6 (by assumption) ?_ ?_; focus (first | omega | (simp <;> omega)))))) ⟨_, _, brow 32 (f k), rfl, fun w h => DSl.cells hcell hkm h hbl, brow_size _ _, ?_⟩
                (try simp only [Act.put, Act.eval, List.setIfInBounds_toArray, List.set_cons_zero, List.set_cons_succ, Array.getD_eq_getD_getElem?, List.getElem?_toArray, List.getElem?_cons_zero, List.getElem?_cons_succ, Option.getD_some])
                (refine Arr.held_step [4] (by kernel_rfl) (by simp) ?_; refine List.forall_mem_cons.2 ⟨⟨_, rfl, ?_⟩, fun _ h => absurd h List.not_mem_nil⟩; go_wp2_with (((with_reducible refine Arr.arm_load row26 rfl ?_); refine ⟨rfl, _, _, _, _, rfl, by (with_reducible repeat (first | assumption | (refine p1 ?_; (first | omega | (simp <;> omega))) | (refine p2 ?_ ?_; focus (first | omega | (simp <;> omega))) | refine p3 ?_ | refine p4 ?_ | apply p5 | (refine p6 ?_ ?_; focus (first | omega | (simp <;> omega))) | apply p7 | (refine p8 ?_ ?_; focus (first | omega | (simp <;> omega))) | (refine p9 (by assumption) ?_ ?_; focus (first | omega | (simp <;> omega))) | (refine p10 (by assumption) ?_ ?_; focus (first | omega | (simp <;> omega))))), by (exact brow_size _ _), ?_⟩; skip)); refine ⟨by (with_reducible repeat (first | assumption | exact Below.refl _ _ | (refine b4 ?_ ?_; focus (first | omega | (simp <;> omega))) | refine b2 ?_ | refine Below.drew ?_ | (refine b5 ?_ ?_; focus (first | omega | (simp <;> omega))) | (refine b1 ?_ ?_; focus (first | omega | (simp <;> omega))) | (refine b3 (by assumption) ?_ ?_; focus (first | omega | (simp <;> omega))) | (refine b6 (by assumption) ?_ ?_; focus (first | omega | (simp <;> omega))))), ?_⟩)
                (refine Arr.held_step [5] (by kernel_rfl) (by simp) ?_; refine List.forall_mem_cons.2 ⟨⟨_, rfl, ?_⟩, fun _ h => absurd h List.not_mem_nil⟩; go_wp2_with ((go_at_call 49; (with_reducible refine (c_refNode (f k) E _).mono ?_); rintro e w5 ⟨rfl, hb5⟩; have hz5 := hb5.size; (try simp only [World.size_alloc, World.size_drew] at hz5))); refine ⟨by (with_reducible repeat (first | assumption | exact Below.refl _ _ | (refine b4 ?_ ?_; focus (first | omega | (simp <;> omega))) | refine b2 ?_ | refine Below.drew ?_ | (refine b5 ?_ ?_; focus (first | omega | (simp <;> omega))) | (refine b1 ?_ ?_; focus (first | omega | (simp <;> omega))) | (refine b3 (by assumption) ?_ ?_; focus (first | omega | (simp <;> omega))) | (refine b6 (by assumption) ?_ ?_; focus (first | omega | (simp <;> omega))))), ?_⟩)
                (refine Arr.held_step [6] (by kernel_rfl) (by simp) ?_; refine List.forall_mem_cons.2 ⟨⟨_, rfl, ?_⟩, fun _ h => absurd h List.not_mem_nil⟩; go_wp2_with (((with_reducible refine Arr.arm_store row26 rfl ?_); refine ⟨rfl, _, _, _, _, rfl, rfl, by (with_reducible repeat (first | assumption | (refine p1 ?_; (first | omega | (simp <;> omega))) | (refine p2 ?_ ?_; focus (first | omega | (simp <;> omega))) | refine p3 ?_ | refine p4 ?_ | apply p5 | (refine p6 ?_ ?_; focus (first | omega | (simp <;> omega))) | apply p7 | (refine p8 ?_ ?_; focus (first | omega | (simp <;> omega))) | (refine p9 (by assumption) ?_ ?_; focus (first | omega | (simp <;> omega))) | (refine p10 (by assumption) ?_ ?_; focus (first | omega | (simp <;> omega))))), by (exact brow_size _ _), by (exact brow_size _ _), by (exact brow_one _ _), ?_⟩)); refine ⟨by (with_reducible repeat (first | assumption | exact Below.refl _ _ | (refine b4 ?_ ?_; focus (first | omega | (simp <;> omega))) | refine b2 ?_ | refine Below.drew ?_ | (refine b5 ?_ ?_; focus (first | omega | (simp <;> omega))) | (refine b1 ?_ ?_; focus (first | omega | (simp <;> omega))) | (refine b3 (by assumption) ?_ ?_; focus (first | omega | (simp <;> omega))) | (refine b6 (by assumption) ?_ ?_; focus (first | omega | (simp <;> omega))))), ?_⟩)
                refine wpAnyH_done (by kernel_rfl) ?_ _
                go_wp2
                go_roundg (m - (k + 1))
                case measure => have := HKM.out; omega
                case rel => exact ⟨k + 1, by omega, by go_num, by (with_reducible repeat (first | assumption | (refine p1 ?_; (first | omega | (simp <;> omega))) | (refine p2 ?_ ?_; focus (first | omega | (simp <;> omega))) | refine p3 ?_ | refine p4 ?_ | apply p5 | (refine p6 ?_ ?_; focus (first | omega | (simp <;> omega))) | apply p7 | (refine p8 ?_ ?_; focus (first | omega | (simp <;> omega))) | (refine p9 (by assumption) ?_ ?_; focus (first | omega | (simp <;> omega))) | (refine p10 (by assumption) ?_ ?_; focus (first | omega | (simp <;> omega))))), by rw [hstep.out]; (with_reducible repeat (first | assumption | (refine p1 ?_; (first | omega | (simp <;> omega))) | (refine p2 ?_ ?_; focus (first | omega | (simp <;> omega))) | refine p3 ?_ | refine p4 ?_ | apply p5 | (refine p6 ?_ ?_; focus (first | omega | (simp <;> omega))) | apply p7 | (refine p8 ?_ ?_; focus (first | omega | (simp <;> omega))) | (refine p9 (by assumption) ?_ ?_; focus (first | omega | (simp <;> omega))) | (refine p10 (by assumption) ?_ ?_; focus (first | omega | (simp <;> omega))))), fun _ => by (with_reducible repeat (first | assumption | (refine p1 ?_; (first | omega | (simp <;> omega))) | (refine p2 ?_ ?_; focus (first | omega | (simp <;> omega))) | refine p3 ?_ | refine p4 ?_ | apply p5 | (refine p6 ?_ ?_; focus (first | omega | (simp <;> omega))) | apply p7 | (refine p8 ?_ ?_; focus (first | omega | (simp <;> omega))) | (refine p9 (by assumption) ?_ ?_; focus (first | omega | (simp <;> omega))) | (refine p10 (by assumption) ?_ ?_; focus (first | omega | (simp <;> omega))))), by (with_reducible repeat (first | assumption | exact Below.refl _ _ | (refine b4 ?_ ?_; focus (first | omega | (simp <;> omega))) | refine b2 ?_ | refine Below.drew ?_ | (refine b5 ?_ ?_; focus (first | omega | (simp <;> omega))) | (refine b1 ?_ ?_; focus (first | omega | (simp <;> omega))) | (refine b3 (by assumption) ?_ ?_; focus (first | omega | (simp <;> omega))) | (refine b6 (by assumption) ?_ ?_; focus (first | omega | (simp <;> omega)))))⟩
            · have e : k = m := by omega
              subst e
              go_wp2_with (first | ((with_reducible refine Arr.arm_load row26 rfl ?_); refine ⟨rfl, _, _, _, _, rfl, by (with_reducible repeat (first | assumption | (refine p1 ?_; (first | omega | (simp <;> omega))) | (refine p2 ?_ ?_; focus (first | omega | (simp <;> omega))) | refine p3 ?_ | refine p4 ?_ | apply p5 | (refine p6 ?_ ?_; focus (first | omega | (simp <;> omega))) | apply p7 | (refine p8 ?_ ?_; focus (first | omega | (simp <;> omega))) | (refine p9 (by assumption) ?_ ?_; focus (first | omega | (simp <;> omega))) | (refine p10 (by assumption) ?_ ?_; focus (first | omega | (simp <;> omega))))), by (exact brow_size _ _), ?_⟩; skip))
              go_ret
              exact ⟨rfl, by (with_reducible repeat (first | assumption | exact Below.refl _ _ | (refine b4 ?_ ?_; focus (first | omega | (simp <;> omega))) | refine b2 ?_ | refine Below.drew ?_ | (refine b5 ?_ ?_; focus (first | omega | (simp <;> omega))) | (refine b1 ?_ ?_; focus (first | omega | (simp <;> omega))) | (refine b3 (by assumption) ?_ ?_; focus (first | omega | (simp <;> omega))) | (refine b6 (by assumption) ?_ ?_; focus (first | omega | (simp <;> omega)))))⟩
        · rw [decide_eq_false hSm, Bool.false_and]
          have dm : ((S.length : Int) != (m : Int)) = true := by rw [bne_iff_ne]; omega
          go_enter Tryd.func30, Tryd.ntmps30
          go_wp2_with ((go_at_call 48; (with_reducible refine (C48.out _).mono ?_); rintro e w1 ⟨v, rfl, hO, hb1⟩; have hz1 := hb1.size; (try simp only [World.size_alloc] at hz1); obtain ⟨A1, c1, rfl, hc1, _⟩ := OwnB.row hO))
          go_ret
          exact ⟨rfl, by (with_reducible repeat (first | assumption | exact Below.refl _ _ | (refine b4 ?_ ?_; focus (first | omega | (simp <;> omega))) | refine b2 ?_ | refine Below.drew ?_ | (refine b5 ?_ ?_; focus (first | omega | (simp <;> omega))) | (refine b1 ?_ ?_; focus (first | omega | (simp <;> omega))) | (refine b3 (by assumption) ?_ ?_; focus (first | omega | (simp <;> omega))) | (refine b6 (by assumption) ?_ ?_; focus (first | omega | (simp <;> omega)))))⟩
end Go.Proofs.YtfkeaglbfembnaaDoor.Mk7
