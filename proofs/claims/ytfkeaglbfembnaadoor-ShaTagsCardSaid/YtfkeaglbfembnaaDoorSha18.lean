/- HMAC, as the reference reckons it; the law ShaTags' walk. -/
import Derived.WalkKit
import Derived.StillTactics
import Derived.Outline
import Derived.Deep.DeepCutAuto
import Derived.Deep.CutBlock
import Derived.Test.YtfkeaglbfembnaaDoorSha17
namespace Go.Proofs.YtfkeaglbfembnaaDoor.Sha18
open Go Go.RowKit Go.Proofs.YtfkeaglbfembnaaDoor.Arr Go.Proofs.YtfkeaglbfembnaaDoor.Mid Go.Proofs.YtfkeaglbfembnaaDoor.App Go.Proofs.YtfkeaglbfembnaaDoor.Sha1 Go.Proofs.YtfkeaglbfembnaaDoor.Sha2 Go.Proofs.YtfkeaglbfembnaaDoor.Sha4 Go.Proofs.YtfkeaglbfembnaaDoor.Sha5 Go.Proofs.YtfkeaglbfembnaaDoor.Sha6 Go.Proofs.YtfkeaglbfembnaaDoor.Sha7 Go.Proofs.YtfkeaglbfembnaaDoor.Sha8 Go.Proofs.YtfkeaglbfembnaaDoor.Sha9 Go.Proofs.YtfkeaglbfembnaaDoor.Sha10 Go.Proofs.YtfkeaglbfembnaaDoor.Sha11 Go.Proofs.YtfkeaglbfembnaaDoor.Sha12 Go.Proofs.YtfkeaglbfembnaaDoor.Sha13 Go.Proofs.YtfkeaglbfembnaaDoor.Sha17
set_option maxRecDepth 100000
set_option linter.unusedVariables false
set_option linter.unusedSimpArgs false
/-- Two slices of the call's own share no block. -/
def Apt (u v : Value) : Prop := ∀ k, u.ownBlock = some k → v.ownBlock ≠ some k
theorem Apt.nil (v : Value) (n c : Nat) : Apt (.slice none n c) v := fun k h => by simp [Value.ownBlock] at h
theorem Apt.symm {u v : Value} (h : Apt u v) : Apt v u := fun k h1 h2 => h k h2 h1
section
variable {P : Program}
theorem arm_appC {ops : Array Oper} {Q : Exit → Act → World → Prop} {rest : List Oper} {o : Oper} {a : Act} {w : World} {t : TypeId} (hT : ElemTy P t 5 1 1) {s x : Operand}
    (ho : o.op = .call { callee := .builtin .append, args := #[s, x], argTypes := #[t, t] }) {base B : Nat} {v : Value} {l m : Bytes8} {A : Option Addr} (hown : Own w base v l) (hsrc : BSl w B A m) (hlen : l.length + m.length ≤ 100000000000000) (hbase : base ≤ w.heap.size)
    (h : Region.wanted o (yielded ops a.tmps) = true ∧ a.eval s = v ∧ ∃ c, a.eval x = .slice A m.length c ∧
      ∀ v' w', Own w' base v' (l ++ m) → Below base w w' → (∀ u q, Own w base u q → Apt u v → Own w' base u q ∧ Apt u v') → wpList P ops Q rest (a.put o.dst v') w') : wpList P ops Q (o :: rest) a w := by
  obtain ⟨hw, hs, c, hx, h⟩ := h
  refine arm_app hT ho ⟨hw, base, v, l.length, l.map by8, A, m.length, c, m.map by8, hs, hx, hown, by simp, fun h0 => ?_, fun u hu => ?_, by unfold maxLen; omega, by omega, hbase, fun v' w' h2 h3 h4 h5 => h v' w' ?_ h3 ?_⟩
  · obtain ⟨b, o', e, hb, hc⟩ := hsrc h0
    refine ⟨b, o', e, fun j u hu => ?_⟩
    have hj : j < m.length := by have := (List.getElem?_eq_some_iff.1 hu).1; simpa using this
    rw [hc j hj, ← hu, List.getElem?_map, List.getElem?_eq_getElem hj]; unfold lf; rw [List.getD_eq_getElem?_getD, List.getElem?_eq_getElem hj]; rfl
  · simp at hu; obtain ⟨_, _, rfl⟩ := hu; rfl
  · unfold Own; rw [List.length_append, List.map_append]; exact h2
  · intro u q hu ha
    refine ⟨hu.kept h5 ?_, fun k hk => ?_⟩
    · cases hv : u.ownBlock with
      | none => exact .inl rfl
      | some k => exact .inr (fun e => ha k hv e.symm)
    · rcases h4 with e | e
      · rw [e]; exact ha k hk
      · rw [e]; intro e2; have := (hu.lt k hk).2; have := Option.some.inj e2; omega
end
set_option maxHeartbeats 8000000 in
theorem c_refTag (K : Nat → B8) (A : Option Addr) (l : Bytes8) (cap B : Nat) (w : World) (hB : B ≤ w.heap.size) (h : BSl w B A l) (hn : l.length < 1000000) :
    Calls Tryd.prog 27 #[.agg (brow 32 K), .slice A l.length cap] w fun e w' => e = .returned (.agg (brow 32 (hmac K l))) ∧ Below w.heap.size w w' := by
  have z26 := zero26
  go_enter Tryd.func27, Tryd.ntmps27
  go_wp2_with fail
  refine Arr.name_world _ (fun W hW => ?_)
  have g0 : W.heap[w.heap.size]? = some (.cells (brow 32 K) 26 (0, 0)) := by rw [hW]; (with_reducible repeat (first | assumption | (refine p1 ?_; (first | omega | (simp <;> omega))) | (refine p2 ?_ ?_; focus (first | omega | (simp <;> omega))) | refine p3 ?_ | refine p4 ?_ | apply p5 | (refine p6 ?_ ?_; focus (first | omega | (simp <;> omega))) | apply p7 | (refine p8 ?_ ?_; focus (first | omega | (simp <;> omega))) | (refine p9 (by assumption) ?_ ?_; focus (first | omega | (simp <;> omega))) | (refine p10 (by assumption) ?_ ?_; focus (first | omega | (simp <;> omega)))))
  have g1 : W.heap[w.heap.size + 1]? = some (.cells (brow 32 fun _ => 0#8) 26 (0, 0)) := by rw [hW]; (with_reducible repeat (first | assumption | (refine p1 ?_; (first | omega | (simp <;> omega))) | (refine p2 ?_ ?_; focus (first | omega | (simp <;> omega))) | refine p3 ?_ | refine p4 ?_ | apply p5 | (refine p6 ?_ ?_; focus (first | omega | (simp <;> omega))) | apply p7 | (refine p8 ?_ ?_; focus (first | omega | (simp <;> omega))) | (refine p9 (by assumption) ?_ ?_; focus (first | omega | (simp <;> omega))) | (refine p10 (by assumption) ?_ ?_; focus (first | omega | (simp <;> omega)))))
  have hB0 : Below w.heap.size w W := by rw [hW]; (with_reducible repeat (first | assumption | exact Below.refl _ _ | (refine b4 ?_ ?_; focus (first | omega | (simp <;> omega))) | refine b2 ?_ | refine Below.drew ?_ | (refine b5 ?_ ?_; focus (first | omega | (simp <;> omega))) | (refine b1 ?_ ?_; focus (first | omega | (simp <;> omega))) | (refine b3 (by assumption) ?_ ?_; focus (first | omega | (simp <;> omega))) | (refine b6 (by assumption) ?_ ?_; focus (first | omega | (simp <;> omega)))))
  clear hW
  go_loopg [5, 6, 7] 64 (fun k v u i wr => ∃ t : Nat, t + k = 64 ∧ i = .int .i64 t ∧ Own wr (w.heap.size + 2) v (rowL t (ipad K)) ∧ Own wr (w.heap.size + 2) u (rowL t (opad K)) ∧ Apt u v ∧ wr.heap[w.heap.size]? = some (.cells (brow 32 K) 26 (0, 0)) ∧ wr.heap[w.heap.size + 1]? = some (.cells (brow 32 fun _ => 0#8) 26 (0, 0)) ∧ Below w.heap.size w wr)
  case atStart => exact ⟨0, by omega, rfl, Own.nil _ _, Own.nil _ _, Apt.nil _ _ _, g0, g1, hB0⟩
  case round =>
    clear g0 g1 hB0
    obtain ⟨t, ht, rfl, hO, hU, hap, g0, g1, hB0⟩ := hrel
    have HT := hid ht
    have ht2 : t ≤ 64 := by omega
    have hl1 := lt_of g1
    clear ht
    by_cases h64 : t < 64
    · obtain ⟨x, hx⟩ : ∃ x, x = keyb K t := ⟨_, rfl⟩
      obtain ⟨y, hy⟩ : ∃ y, y = x ^^^ 54#8 := ⟨_, rfl⟩
      obtain ⟨z, hz⟩ : ∃ z, z = x ^^^ 92#8 := ⟨_, rfl⟩
      have e1 : bits .xor .u8 (x.toNat : Int) 54 = (y.toNat : Int) := by rw [hy]; exact b8_xor x 54#8
      have e2 : bits .xor .u8 (x.toNat : Int) 92 = (z.toNat : Int) := by rw [hz]; exact b8_xor x 92#8
      have HY : Hid (y = ipad K t) := by show y = _; rw [hy, hx]; rfl
      have HZ : Hid (z = opad K t) := by show z = _; rw [hz, hx]; rfl
      have c1 : t < 32 → wr.cell? ⟨w.heap.size, t, none⟩ = some (.int .u8 (x.toNat : Int)) := fun h32 => by
        rw [cell_of g0 (brow_get 32 K t h32), hx]; unfold keyb; rw [if_pos h32]; rfl
      have hx0 : ¬ t < 32 → x = 0#8 := fun h32 => by rw [hx]; unfold keyb; rw [if_neg h32]
      clear hx hy hz
      by_cases h32 : t < 32
      · have c2 := c1 h32
        have t32 : (t : Int) < 32 := by omega
        clear c1 hx0
        go_wp2_with (first | ((at_builtin; refine arm_appC elem5 rfl (base := w.heap.size + 2) (m := [y]) (v := u5) (Own.alloc hO _) (bsl_one (v := y) (heap_alloc_new _ _) rfl) (by rw [rowL_len]; simp; omega) (by simp; omega) ?_); refine ⟨rfl, rfl, _, rfl, ?_⟩; intro v5 w5 hO5 hb5 hot5) | ((at_builtin; refine arm_appC elem5 rfl (base := w.heap.size + 2) (m := [z]) (v := u6) (Own.alloc (hot5 _ _ (Own.alloc hU _) hap).1 _) (bsl_one (v := z) (heap_alloc_new _ _) rfl) (by rw [rowL_len]; simp; omega) (by simp; have := hb5.size; simp at this; omega) ?_); refine ⟨rfl, rfl, _, rfl, ?_⟩; intro v6 w6 hO6 hb6 hot6))
        have hap5 := (hot5 _ _ (Own.alloc hU _) hap).2
        have h6 := hot6 v5 _ (Own.alloc hO5 _) hap5.symm
        have hz5 := hb5.size
        have hz6 := hb6.size
        simp only [World.size_alloc] at hz5 hz6
        have q0 : w5.heap[w.heap.size]? = some (.cells (brow 32 K) 26 (0, 0)) := by (with_reducible repeat (first | assumption | (refine p1 ?_; (first | omega | (simp <;> omega))) | (refine p2 ?_ ?_; focus (first | omega | (simp <;> omega))) | refine p3 ?_ | refine p4 ?_ | apply p5 | (refine p6 ?_ ?_; focus (first | omega | (simp <;> omega))) | apply p7 | (refine p8 ?_ ?_; focus (first | omega | (simp <;> omega))) | (refine p9 (by assumption) ?_ ?_; focus (first | omega | (simp <;> omega))) | (refine p10 (by assumption) ?_ ?_; focus (first | omega | (simp <;> omega)))))
        have q1 : w5.heap[w.heap.size + 1]? = some (.cells (brow 32 fun _ => 0#8) 26 (0, 0)) := by (with_reducible repeat (first | assumption | (refine p1 ?_; (first | omega | (simp <;> omega))) | (refine p2 ?_ ?_; focus (first | omega | (simp <;> omega))) | refine p3 ?_ | refine p4 ?_ | apply p5 | (refine p6 ?_ ?_; focus (first | omega | (simp <;> omega))) | apply p7 | (refine p8 ?_ ?_; focus (first | omega | (simp <;> omega))) | (refine p9 (by assumption) ?_ ?_; focus (first | omega | (simp <;> omega))) | (refine p10 (by assumption) ?_ ?_; focus (first | omega | (simp <;> omega)))))
        have r0 : w6.heap[w.heap.size]? = some (.cells (brow 32 K) 26 (0, 0)) := by (with_reducible repeat (first | assumption | (refine p1 ?_; (first | omega | (simp <;> omega))) | (refine p2 ?_ ?_; focus (first | omega | (simp <;> omega))) | refine p3 ?_ | refine p4 ?_ | apply p5 | (refine p6 ?_ ?_; focus (first | omega | (simp <;> omega))) | apply p7 | (refine p8 ?_ ?_; focus (first | omega | (simp <;> omega))) | (refine p9 (by assumption) ?_ ?_; focus (first | omega | (simp <;> omega))) | (refine p10 (by assumption) ?_ ?_; focus (first | omega | (simp <;> omega)))))
        have r1 : w6.heap[w.heap.size + 1]? = some (.cells (brow 32 fun _ => 0#8) 26 (0, 0)) := by (with_reducible repeat (first | assumption | (refine p1 ?_; (first | omega | (simp <;> omega))) | (refine p2 ?_ ?_; focus (first | omega | (simp <;> omega))) | refine p3 ?_ | refine p4 ?_ | apply p5 | (refine p6 ?_ ?_; focus (first | omega | (simp <;> omega))) | apply p7 | (refine p8 ?_ ?_; focus (first | omega | (simp <;> omega))) | (refine p9 (by assumption) ?_ ?_; focus (first | omega | (simp <;> omega))) | (refine p10 (by assumption) ?_ ?_; focus (first | omega | (simp <;> omega)))))
        have hB5 : Below w.heap.size w w5 := by (with_reducible repeat (first | assumption | exact Below.refl _ _ | (refine b4 ?_ ?_; focus (first | omega | (simp <;> omega))) | refine b2 ?_ | refine Below.drew ?_ | (refine b5 ?_ ?_; focus (first | omega | (simp <;> omega))) | (refine b1 ?_ ?_; focus (first | omega | (simp <;> omega))) | (refine b3 (by assumption) ?_ ?_; focus (first | omega | (simp <;> omega))) | (refine b6 (by assumption) ?_ ?_; focus (first | omega | (simp <;> omega)))))
        have hB6 : Below w.heap.size w w6 := by (with_reducible repeat (first | assumption | exact Below.refl _ _ | (refine b4 ?_ ?_; focus (first | omega | (simp <;> omega))) | refine b2 ?_ | refine Below.drew ?_ | (refine b5 ?_ ?_; focus (first | omega | (simp <;> omega))) | (refine b1 ?_ ?_; focus (first | omega | (simp <;> omega))) | (refine b3 (by assumption) ?_ ?_; focus (first | omega | (simp <;> omega))) | (refine b6 (by assumption) ?_ ?_; focus (first | omega | (simp <;> omega)))))
        have h61 := h6.1
        rw [HY.out, ← rowL_succ] at h61
        rw [HZ.out, ← rowL_succ] at hO6
        have h62 := h6.2.symm
        clear hot5 hot6 hap5 h6
        go_roundg (64 - (t + 1))
        case measure => have := HT.out; omega
        case rel => exact ⟨t + 1, by omega, by go_num, h61, hO6, h62, r0, r1, hB6⟩
      · have hx := hx0 h32
        rw [hx] at e1 e2
        have e1' : bits .xor .u8 0 54 = (y.toNat : Int) := e1
        have e2' : bits .xor .u8 0 92 = (z.toNat : Int) := e2
        clear c1 hx0 hx e1 e2
        go_wp2_with (first | ((at_builtin; refine arm_appC elem5 rfl (base := w.heap.size + 2) (m := [y]) (v := u5) (Own.alloc hO _) (bsl_one (v := y) (heap_alloc_new _ _) rfl) (by rw [rowL_len]; simp; omega) (by simp; omega) ?_); refine ⟨rfl, rfl, _, rfl, ?_⟩; intro v5 w5 hO5 hb5 hot5) | ((at_builtin; refine arm_appC elem5 rfl (base := w.heap.size + 2) (m := [z]) (v := u6) (Own.alloc (hot5 _ _ (Own.alloc hU _) hap).1 _) (bsl_one (v := z) (heap_alloc_new _ _) rfl) (by rw [rowL_len]; simp; omega) (by simp; have := hb5.size; simp at this; omega) ?_); refine ⟨rfl, rfl, _, rfl, ?_⟩; intro v6 w6 hO6 hb6 hot6))
        have hap5 := (hot5 _ _ (Own.alloc hU _) hap).2
        have h6 := hot6 v5 _ (Own.alloc hO5 _) hap5.symm
        have hz5 := hb5.size
        have hz6 := hb6.size
        simp only [World.size_alloc] at hz5 hz6
        have q0 : w5.heap[w.heap.size]? = some (.cells (brow 32 K) 26 (0, 0)) := by (with_reducible repeat (first | assumption | (refine p1 ?_; (first | omega | (simp <;> omega))) | (refine p2 ?_ ?_; focus (first | omega | (simp <;> omega))) | refine p3 ?_ | refine p4 ?_ | apply p5 | (refine p6 ?_ ?_; focus (first | omega | (simp <;> omega))) | apply p7 | (refine p8 ?_ ?_; focus (first | omega | (simp <;> omega))) | (refine p9 (by assumption) ?_ ?_; focus (first | omega | (simp <;> omega))) | (refine p10 (by assumption) ?_ ?_; focus (first | omega | (simp <;> omega)))))
        have q1 : w5.heap[w.heap.size + 1]? = some (.cells (brow 32 fun _ => 0#8) 26 (0, 0)) := by (with_reducible repeat (first | assumption | (refine p1 ?_; (first | omega | (simp <;> omega))) | (refine p2 ?_ ?_; focus (first | omega | (simp <;> omega))) | refine p3 ?_ | refine p4 ?_ | apply p5 | (refine p6 ?_ ?_; focus (first | omega | (simp <;> omega))) | apply p7 | (refine p8 ?_ ?_; focus (first | omega | (simp <;> omega))) | (refine p9 (by assumption) ?_ ?_; focus (first | omega | (simp <;> omega))) | (refine p10 (by assumption) ?_ ?_; focus (first | omega | (simp <;> omega)))))
        have r0 : w6.heap[w.heap.size]? = some (.cells (brow 32 K) 26 (0, 0)) := by (with_reducible repeat (first | assumption | (refine p1 ?_; (first | omega | (simp <;> omega))) | (refine p2 ?_ ?_; focus (first | omega | (simp <;> omega))) | refine p3 ?_ | refine p4 ?_ | apply p5 | (refine p6 ?_ ?_; focus (first | omega | (simp <;> omega))) | apply p7 | (refine p8 ?_ ?_; focus (first | omega | (simp <;> omega))) | (refine p9 (by assumption) ?_ ?_; focus (first | omega | (simp <;> omega))) | (refine p10 (by assumption) ?_ ?_; focus (first | omega | (simp <;> omega)))))
        have r1 : w6.heap[w.heap.size + 1]? = some (.cells (brow 32 fun _ => 0#8) 26 (0, 0)) := by (with_reducible repeat (first | assumption | (refine p1 ?_; (first | omega | (simp <;> omega))) | (refine p2 ?_ ?_; focus (first | omega | (simp <;> omega))) | refine p3 ?_ | refine p4 ?_ | apply p5 | (refine p6 ?_ ?_; focus (first | omega | (simp <;> omega))) | apply p7 | (refine p8 ?_ ?_; focus (first | omega | (simp <;> omega))) | (refine p9 (by assumption) ?_ ?_; focus (first | omega | (simp <;> omega))) | (refine p10 (by assumption) ?_ ?_; focus (first | omega | (simp <;> omega)))))
        have hB5 : Below w.heap.size w w5 := by (with_reducible repeat (first | assumption | exact Below.refl _ _ | (refine b4 ?_ ?_; focus (first | omega | (simp <;> omega))) | refine b2 ?_ | refine Below.drew ?_ | (refine b5 ?_ ?_; focus (first | omega | (simp <;> omega))) | (refine b1 ?_ ?_; focus (first | omega | (simp <;> omega))) | (refine b3 (by assumption) ?_ ?_; focus (first | omega | (simp <;> omega))) | (refine b6 (by assumption) ?_ ?_; focus (first | omega | (simp <;> omega)))))
        have hB6 : Below w.heap.size w w6 := by (with_reducible repeat (first | assumption | exact Below.refl _ _ | (refine b4 ?_ ?_; focus (first | omega | (simp <;> omega))) | refine b2 ?_ | refine Below.drew ?_ | (refine b5 ?_ ?_; focus (first | omega | (simp <;> omega))) | (refine b1 ?_ ?_; focus (first | omega | (simp <;> omega))) | (refine b3 (by assumption) ?_ ?_; focus (first | omega | (simp <;> omega))) | (refine b6 (by assumption) ?_ ?_; focus (first | omega | (simp <;> omega)))))
        have h61 := h6.1
        rw [HY.out, ← rowL_succ] at h61
        rw [HZ.out, ← rowL_succ] at hO6
        have h62 := h6.2.symm
        clear hot5 hot6 hap5 h6
        go_roundg (64 - (t + 1))
        case measure => have := HT.out; omega
        case rel => exact ⟨t + 1, by omega, by go_num, h61, hO6, h62, r0, r1, hB6⟩
    · have e : t = 64 := by omega
      subst e
      have hsr := h.below hB0 hB
      have hz0 := hB0.size
      go_wp2_with ((at_builtin; refine arm_appC elem5 rfl (base := w.heap.size + 2) (v := u5) hO hsr (by rw [rowL_len]; omega) (by omega) ?_); refine ⟨rfl, rfl, _, rfl, ?_⟩; intro v5 w5 hO5 hb5 hot5; obtain ⟨A5, c5, rfl, hc5, hs5, _⟩ := hO5.form)
      have hU5 := (hot5 _ _ hU hap).1
      have hz5 := hb5.size
      have q1 : w5.heap[w.heap.size + 1]? = some (.cells (brow 32 fun _ => 0#8) 26 (0, 0)) := by (with_reducible repeat (first | assumption | (refine p1 ?_; (first | omega | (simp <;> omega))) | (refine p2 ?_ ?_; focus (first | omega | (simp <;> omega))) | refine p3 ?_ | refine p4 ?_ | apply p5 | (refine p6 ?_ ?_; focus (first | omega | (simp <;> omega))) | apply p7 | (refine p8 ?_ ?_; focus (first | omega | (simp <;> omega))) | (refine p9 (by assumption) ?_ ?_; focus (first | omega | (simp <;> omega))) | (refine p10 (by assumption) ?_ ?_; focus (first | omega | (simp <;> omega)))))
      have hB5 : Below w.heap.size w w5 := by (with_reducible repeat (first | assumption | exact Below.refl _ _ | (refine b4 ?_ ?_; focus (first | omega | (simp <;> omega))) | refine b2 ?_ | refine Below.drew ?_ | (refine b5 ?_ ?_; focus (first | omega | (simp <;> omega))) | (refine b1 ?_ ?_; focus (first | omega | (simp <;> omega))) | (refine b3 (by assumption) ?_ ?_; focus (first | omega | (simp <;> omega))) | (refine b6 (by assumption) ?_ ?_; focus (first | omega | (simp <;> omega)))))
      rw [← List.length_append]
      have hPl : (rowL 64 (ipad K) ++ l).length = 64 + l.length := by rw [List.length_append, rowL_len]
      have c17 := c_refSum A5 (rowL 64 (ipad K) ++ l) c5 w5.heap.size w5 (Nat.le_refl _) hs5 (by omega)
      obtain ⟨D, hD⟩ : ∃ D, D = shaL (rowL 64 (ipad K) ++ l) := ⟨_, rfl⟩
      rw [← hD] at c17
      have HD := hid hD
      have C17 := hid c17
      clear c17 hD hot5 hO hU hap g0 g1 hB0 hsr hb5 hs5 hc5 hO5 hPl
      refine (C17.out).mono ?_
      rintro e w6 ⟨rfl, hb6⟩
      have hz6 := hb6.size
      have hU6 := Own.below hU5 hb6
      have r1 : w6.heap[w.heap.size + 1]? = some (.cells (brow 32 fun _ => 0#8) 26 (0, 0)) := by (with_reducible repeat (first | assumption | (refine p1 ?_; (first | omega | (simp <;> omega))) | (refine p2 ?_ ?_; focus (first | omega | (simp <;> omega))) | refine p3 ?_ | refine p4 ?_ | apply p5 | (refine p6 ?_ ?_; focus (first | omega | (simp <;> omega))) | apply p7 | (refine p8 ?_ ?_; focus (first | omega | (simp <;> omega))) | (refine p9 (by assumption) ?_ ?_; focus (first | omega | (simp <;> omega))) | (refine p10 (by assumption) ?_ ?_; focus (first | omega | (simp <;> omega)))))
      have hB6 : Below w.heap.size w w6 := by (with_reducible repeat (first | assumption | exact Below.refl _ _ | (refine b4 ?_ ?_; focus (first | omega | (simp <;> omega))) | refine b2 ?_ | refine Below.drew ?_ | (refine b5 ?_ ?_; focus (first | omega | (simp <;> omega))) | (refine b1 ?_ ?_; focus (first | omega | (simp <;> omega))) | (refine b3 (by assumption) ?_ ?_; focus (first | omega | (simp <;> omega))) | (refine b6 (by assumption) ?_ ?_; focus (first | omega | (simp <;> omega)))))
      clear C17 hU5 q1 hB5 hb6
      go_upto_region 12 with (((with_reducible refine Arr.arm_store row26 rfl ?_); refine ⟨rfl, _, _, _, _, rfl, rfl, by (with_reducible repeat (first | assumption | (refine p1 ?_; (first | omega | (simp <;> omega))) | (refine p2 ?_ ?_; focus (first | omega | (simp <;> omega))) | refine p3 ?_ | refine p4 ?_ | apply p5 | (refine p6 ?_ ?_; focus (first | omega | (simp <;> omega))) | apply p7 | (refine p8 ?_ ?_; focus (first | omega | (simp <;> omega))) | (refine p9 (by assumption) ?_ ?_; focus (first | omega | (simp <;> omega))) | (refine p10 (by assumption) ?_ ?_; focus (first | omega | (simp <;> omega))))), by (exact brow_size _ _), by (exact brow_size _ _), by (exact brow_one _ _), ?_⟩))
      refine name_world _ fun W0 hW0 => ?_
      have gD : W0.heap[w6.heap.size]? = some (.cells (brow 32 D) 26 (0, 0)) := by rw [hW0]; (with_reducible repeat (first | assumption | (refine p1 ?_; (first | omega | (simp <;> omega))) | (refine p2 ?_ ?_; focus (first | omega | (simp <;> omega))) | refine p3 ?_ | refine p4 ?_ | apply p5 | (refine p6 ?_ ?_; focus (first | omega | (simp <;> omega))) | apply p7 | (refine p8 ?_ ?_; focus (first | omega | (simp <;> omega))) | (refine p9 (by assumption) ?_ ?_; focus (first | omega | (simp <;> omega))) | (refine p10 (by assumption) ?_ ?_; focus (first | omega | (simp <;> omega)))))
      have hlD := lt_of gD
      have s1 : W0.heap[w.heap.size + 1]? = some (.cells (brow 32 fun _ => 0#8) 26 (0, 0)) := by rw [hW0]; (with_reducible repeat (first | assumption | (refine p1 ?_; (first | omega | (simp <;> omega))) | (refine p2 ?_ ?_; focus (first | omega | (simp <;> omega))) | refine p3 ?_ | refine p4 ?_ | apply p5 | (refine p6 ?_ ?_; focus (first | omega | (simp <;> omega))) | apply p7 | (refine p8 ?_ ?_; focus (first | omega | (simp <;> omega))) | (refine p9 (by assumption) ?_ ?_; focus (first | omega | (simp <;> omega))) | (refine p10 (by assumption) ?_ ?_; focus (first | omega | (simp <;> omega)))))
      have hB7 : Below w.heap.size w W0 := by rw [hW0]; (with_reducible repeat (first | assumption | exact Below.refl _ _ | (refine b4 ?_ ?_; focus (first | omega | (simp <;> omega))) | refine b2 ?_ | refine Below.drew ?_ | (refine b5 ?_ ?_; focus (first | omega | (simp <;> omega))) | (refine b1 ?_ ?_; focus (first | omega | (simp <;> omega))) | (refine b3 (by assumption) ?_ ?_; focus (first | omega | (simp <;> omega))) | (refine b6 (by assumption) ?_ ?_; focus (first | omega | (simp <;> omega)))))
      have hU7 : Own W0 (w.heap.size + 2) u6 (rowL 64 (opad K)) := Own.below hU6 (by rw [hW0]; (with_reducible repeat (first | assumption | exact Below.refl _ _ | (refine b4 ?_ ?_; focus (first | omega | (simp <;> omega))) | refine b2 ?_ | refine Below.drew ?_ | (refine b5 ?_ ?_; focus (first | omega | (simp <;> omega))) | (refine b1 ?_ ?_; focus (first | omega | (simp <;> omega))) | (refine b3 (by assumption) ?_ ?_; focus (first | omega | (simp <;> omega))) | (refine b6 (by assumption) ?_ ?_; focus (first | omega | (simp <;> omega))))))
      have hsD := bsl_row gD
      clear hW0 hU6 r1 hB6
      go_wp2_with ((at_builtin; refine arm_appC elem5 rfl (base := w.heap.size + 2) (v := u6) (m := rowL 32 D) hU7 hsD (by rw [rowL_len, rowL_len]; omega) (by omega) ?_); refine ⟨rfl, rfl, _, by rw [rowL_len]; rfl, ?_⟩; intro v8 w8 hO8 hb8 hot8; obtain ⟨A8, c8, rfl, hc8, hs8, _⟩ := hO8.form)
      rw [← List.length_append]
      have hPl : (rowL 64 (opad K) ++ rowL 32 D).length = 96 := by rw [List.length_append, rowL_len, rowL_len]
      have c17 := c_refSum A8 (rowL 64 (opad K) ++ rowL 32 D) c8 w8.heap.size w8 (Nat.le_refl _) hs8 (by omega)
      obtain ⟨E, hE⟩ : ∃ E, E = shaL (rowL 64 (opad K) ++ rowL 32 D) := ⟨_, rfl⟩
      rw [← hE] at c17
      have HE : Hid (hmac K l = E) := by show _ = _; rw [hE, HD.out]; rfl
      have C17 := hid c17
      have hz8 := hb8.size
      have u1 : w8.heap[w.heap.size + 1]? = some (.cells (brow 32 fun _ => 0#8) 26 (0, 0)) := by (with_reducible repeat (first | assumption | (refine p1 ?_; (first | omega | (simp <;> omega))) | (refine p2 ?_ ?_; focus (first | omega | (simp <;> omega))) | refine p3 ?_ | refine p4 ?_ | apply p5 | (refine p6 ?_ ?_; focus (first | omega | (simp <;> omega))) | apply p7 | (refine p8 ?_ ?_; focus (first | omega | (simp <;> omega))) | (refine p9 (by assumption) ?_ ?_; focus (first | omega | (simp <;> omega))) | (refine p10 (by assumption) ?_ ?_; focus (first | omega | (simp <;> omega)))))
      have hB8 : Below w.heap.size w w8 := by (with_reducible repeat (first | assumption | exact Below.refl _ _ | (refine b4 ?_ ?_; focus (first | omega | (simp <;> omega))) | refine b2 ?_ | refine Below.drew ?_ | (refine b5 ?_ ?_; focus (first | omega | (simp <;> omega))) | (refine b1 ?_ ?_; focus (first | omega | (simp <;> omega))) | (refine b3 (by assumption) ?_ ?_; focus (first | omega | (simp <;> omega))) | (refine b6 (by assumption) ?_ ?_; focus (first | omega | (simp <;> omega)))))
      clear c17 hE hot8 hO8 hs8 hc8 hPl hb8 s1
      refine (C17.out).mono ?_
      rintro e w9 ⟨rfl, hb9⟩
      have hz9 := hb9.size
      have hl8 := lt_of u1
      have x1 : w9.heap[w.heap.size + 1]? = some (.cells (brow 32 fun _ => 0#8) 26 (0, 0)) := by (with_reducible repeat (first | assumption | (refine p1 ?_; (first | omega | (simp <;> omega))) | (refine p2 ?_ ?_; focus (first | omega | (simp <;> omega))) | refine p3 ?_ | refine p4 ?_ | apply p5 | (refine p6 ?_ ?_; focus (first | omega | (simp <;> omega))) | apply p7 | (refine p8 ?_ ?_; focus (first | omega | (simp <;> omega))) | (refine p9 (by assumption) ?_ ?_; focus (first | omega | (simp <;> omega))) | (refine p10 (by assumption) ?_ ?_; focus (first | omega | (simp <;> omega)))))
      go_wp2_with (((with_reducible refine Arr.arm_store row26 rfl ?_); refine ⟨rfl, _, _, _, _, rfl, rfl, by (with_reducible repeat (first | assumption | (refine p1 ?_; (first | omega | (simp <;> omega))) | (refine p2 ?_ ?_; focus (first | omega | (simp <;> omega))) | refine p3 ?_ | refine p4 ?_ | apply p5 | (refine p6 ?_ ?_; focus (first | omega | (simp <;> omega))) | apply p7 | (refine p8 ?_ ?_; focus (first | omega | (simp <;> omega))) | (refine p9 (by assumption) ?_ ?_; focus (first | omega | (simp <;> omega))) | (refine p10 (by assumption) ?_ ?_; focus (first | omega | (simp <;> omega))))), by (exact brow_size _ _), by (exact brow_size _ _), by (exact brow_one _ _), ?_⟩))
      refine Arr.ret_row rfl row26 rfl ⟨_, _, _, _, rfl, by (with_reducible repeat (first | assumption | (refine p1 ?_; (first | omega | (simp <;> omega))) | (refine p2 ?_ ?_; focus (first | omega | (simp <;> omega))) | refine p3 ?_ | refine p4 ?_ | apply p5 | (refine p6 ?_ ?_; focus (first | omega | (simp <;> omega))) | apply p7 | (refine p8 ?_ ?_; focus (first | omega | (simp <;> omega))) | (refine p9 (by assumption) ?_ ?_; focus (first | omega | (simp <;> omega))) | (refine p10 (by assumption) ?_ ?_; focus (first | omega | (simp <;> omega))))), by (exact brow_size _ _), ?_⟩
      have hz88 := hB8.size
      exact ⟨by rw [HE.out], by (with_reducible repeat (first | assumption | exact Below.refl _ _ | (refine b4 ?_ ?_; focus (first | omega | (simp <;> omega))) | refine b2 ?_ | refine Below.drew ?_ | (refine b5 ?_ ?_; focus (first | omega | (simp <;> omega))) | (refine b1 ?_ ?_; focus (first | omega | (simp <;> omega))) | (refine b3 (by assumption) ?_ ?_; focus (first | omega | (simp <;> omega))) | (refine b6 (by assumption) ?_ ?_; focus (first | omega | (simp <;> omega)))))⟩
end Go.Proofs.YtfkeaglbfembnaaDoor.Sha18
