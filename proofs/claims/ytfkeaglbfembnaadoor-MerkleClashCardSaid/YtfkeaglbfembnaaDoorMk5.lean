/- On which side a text stands; where a proof leads, as the reference reckons it. -/
import Derived.WalkKit
import Derived.StillTactics
import Derived.Outline
import Derived.Deep.DeepCutAuto
import Derived.Deep.CutBlock
import Derived.Test.YtfkeaglbfembnaaDoorMk4
namespace Go.Proofs.YtfkeaglbfembnaaDoor.Mk5
open Go Go.RowKit Go.Proofs.YtfkeaglbfembnaaDoor.Arr Go.Proofs.YtfkeaglbfembnaaDoor.Mid Go.Proofs.YtfkeaglbfembnaaDoor.App Go.Proofs.YtfkeaglbfembnaaDoor.Sha1 Go.Proofs.YtfkeaglbfembnaaDoor.Sha2 Go.Proofs.YtfkeaglbfembnaaDoor.Sha4 Go.Proofs.YtfkeaglbfembnaaDoor.Sha5 Go.Proofs.YtfkeaglbfembnaaDoor.Sha6 Go.Proofs.YtfkeaglbfembnaaDoor.Sha7 Go.Proofs.YtfkeaglbfembnaaDoor.Sha8 Go.Proofs.YtfkeaglbfembnaaDoor.Sha9 Go.Proofs.YtfkeaglbfembnaaDoor.Sha10 Go.Proofs.YtfkeaglbfembnaaDoor.Sha12 Go.Proofs.YtfkeaglbfembnaaDoor.Sha13 Go.Proofs.YtfkeaglbfembnaaDoor.Sha17 Go.Proofs.YtfkeaglbfembnaaDoor.Mk1 Go.Proofs.YtfkeaglbfembnaaDoor.Mk2 Go.Proofs.YtfkeaglbfembnaaDoor.Mk4
set_option maxRecDepth 100000
set_option linter.unusedVariables false
set_option linter.unusedSimpArgs false
/-- On which side the text stands, from the root down. -/
def steps (i n : Nat) : List Bool :=
  if h : n ≤ 1 then [] else if hf n ≤ i then true :: steps (i - hf n) (n - hf n) else false :: steps i (hf n)
termination_by n
decreasing_by
  · have := hf_pos n; omega
  · exact hf_lt n (by omega)
theorem steps_one (i n : Nat) (h : n ≤ 1) : steps i n = [] := by rw [steps, dif_pos h]
theorem steps_right (i n : Nat) (h : ¬ n ≤ 1) (k : hf n ≤ i) : steps i n = true :: steps (i - hf n) (n - hf n) := by rw [steps, dif_neg h, if_pos k]
theorem steps_left (i n : Nat) (h : ¬ n ≤ 1) (k : ¬ hf n ≤ i) : steps i n = false :: steps i (hf n) := by rw [steps, dif_neg h, if_neg k]
/-- The digest behind k members of a proof. -/
def chkF (S : List Bool) (f : Nat → Dig) (d : Dig) : Nat → Dig
  | 0 => d
  | k + 1 => if S.getD (S.length - 1 - k) false then nodeD (f k) (chkF S f d k) else nodeD (chkF S f d k) (f k)
theorem chkF_cons (b : Bool) (S : List Bool) (f : Nat → Dig) (d : Dig) : ∀ k, k ≤ S.length → chkF (b :: S) f d k = chkF S f d k
  | 0, _ => rfl
  | k + 1, h => by
    unfold chkF
    rw [chkF_cons b S f d k (by omega), show (b :: S).length - 1 - k = (S.length - 1 - k) + 1 by rw [List.length_cons]; omega, List.getD_cons_succ]
theorem lead_chk (d : Dig) (f : Nat → Dig) : ∀ (m i n : Nat), i < n → (leadF d f m i n).2 = decide ((steps i n).length = m) ∧ ((steps i n).length = m → (leadF d f m i n).1 = chkF (steps i n) f d m)
  | 0, i, n, h => by
    by_cases h1 : n = 1
    · subst h1
      rw [steps_one i 1 (by omega)]
      unfold leadF; rw [if_pos rfl]
      exact ⟨rfl, fun _ => rfl⟩
    · have hl : (steps i n).length ≠ 0 := by
        by_cases hk : hf n ≤ i
        · rw [steps_right i n (by omega) hk]; simp
        · rw [steps_left i n (by omega) hk]; simp
      unfold leadF; rw [if_neg h1]
      exact ⟨by rw [decide_eq_false hl], fun e => absurd e hl⟩
  | m + 1, i, n, h => by
    by_cases h1 : n = 1
    · subst h1
      rw [steps_one i 1 (by omega)]
      unfold leadF; rw [if_pos rfl]
      exact ⟨rfl, fun e => absurd e (by simp)⟩
    · have hlt := hf_lt n (by omega)
      by_cases hk : hf n ≤ i
      · obtain ⟨i1, i2⟩ := lead_chk d f m (i - hf n) (n - hf n) (by omega)
        rw [steps_right i n (by omega) hk]
        unfold leadF; rw [if_neg h1, if_neg (by omega)]
        refine ⟨?_, fun e => ?_⟩
        · rw [i1, List.length_cons, decide_eq_decide]; omega
        · have e2 : (steps (i - hf n) (n - hf n)).length = m := by rw [List.length_cons] at e; omega
          unfold chkF
          rw [show (true :: steps (i - hf n) (n - hf n)).length - 1 - m = 0 by rw [List.length_cons]; omega, List.getD_cons_zero, if_pos rfl, chkF_cons _ _ _ _ _ (by omega), ← i2 e2]
      · obtain ⟨i1, i2⟩ := lead_chk d f m i (hf n) (by omega)
        rw [steps_left i n (by omega) hk]
        unfold leadF; rw [if_neg h1, if_pos (by omega)]
        refine ⟨?_, fun e => ?_⟩
        · rw [i1, List.length_cons, decide_eq_decide]; omega
        · have e2 : (steps i (hf n)).length = m := by rw [List.length_cons] at e; omega
          unfold chkF
          rw [show (false :: steps i (hf n)).length - 1 - m = 0 by rw [List.length_cons]; omega, List.getD_cons_zero, if_neg (by decide), chkF_cons _ _ _ _ _ (by omega), ← i2 e2]
/-- v is a slice of the call's own that holds these bools. -/
def OwnB (w : World) (base : Nat) (v : Value) (l : List Bool) : Prop := w.ownsRow base 4 1 v l.length (l.map Value.bool)
theorem OwnB.nil (w : World) (base : Nat) : OwnB w base (.slice none 0 0) [] := World.ownsRow_nil _ _ _ _
theorem OwnB.below {w w' : World} {base : Nat} {v : Value} {l : List Bool} (h : OwnB w base v l) (hb : Below w.heap.size w w') : OwnB w' base v l := own_none h hb
theorem OwnB.alloc {w : World} {base : Nat} {v : Value} {l : List Bool} (h : OwnB w base v l) (o : Obj) : OwnB (w.alloc o) base v l := World.ownsRow.alloc h o
theorem OwnB.form {w : World} {base : Nat} {v : Value} {l : List Bool} (h : OwnB w base v l) : ∃ A c, v = .slice A l.length c ∧ l.length ≤ c ∧ (0 < l.length → ∃ g, A = some ⟨g, 0, none⟩ ∧ base ≤ g ∧ g < w.heap.size ∧ ∀ i, i < l.length → w.cell? ⟨g, i, none⟩ = some (.bool (l.getD i false))) := by
  rcases h.2 with ⟨rfl, h0⟩ | ⟨g, cap, cur, rfl, hb, hg, hc, _, hs, ht⟩
  · exact ⟨none, 0, by rw [h0], by omega, fun h1 => by omega⟩
  · refine ⟨some ⟨g, 0, none⟩, cap, rfl, hc, fun _ => ⟨g, rfl, hb, lt_of hg, fun i hi => ?_⟩⟩
    rw [cell_of_row w g i cur 4 (0, 0) hg]
    have e : (l.map Value.bool)[i]? = some (.bool (l.getD i false)) := by
      rw [List.getElem?_map, List.getElem?_eq_getElem hi, List.getD_eq_getElem?_getD, List.getElem?_eq_getElem hi]; rfl
    rw [← ht, List.getElem?_take, if_pos (by omega), Array.getElem?_toList] at e
    exact e
theorem elem4 : ElemTy Tryd.prog 81 4 1 1 := by
  have h : (Tryd.prog.info? 4).map (fun i => (i.zero, i.size, i.bytes)) = some (some (.bool false), 1, 1) := by kernel_rfl
  obtain ⟨i, hi, hz, hs, hb⟩ := info_parts h
  exact ⟨Tryd.underlying81, ⟨i, _, hi, hz, hs, hb, rfl⟩, by omega⟩
section
variable {P : Program}
theorem arm_appL {ops : Array Oper} {Q : Exit → Act → World → Prop} {rest : List Oper} {o : Oper} {a : Act} {w : World} {t : TypeId} (hT : ElemTy P t 4 1 1) {s x : Operand}
    (ho : o.op = .call { callee := .builtin .append, args := #[s, x], argTypes := #[t, t] }) {base b : Nat} {n : Bool} {v : Value} {l : List Bool} {tt : TypeId} {fr : Nat × Nat} (hown : OwnB w base v l) (hsrc : w.heap[b]? = some (.cells #[.bool n] tt fr)) (hlen : l.length + 1 ≤ 100000000) (hbase : base ≤ w.heap.size)
    (h : Region.wanted o (yielded ops a.tmps) = true ∧ a.eval s = v ∧ ∃ c, a.eval x = .slice (some ⟨b, 0, none⟩) 1 c ∧
      ∀ v' w', OwnB w' base v' (l ++ [n]) → Below base w w' → wpList P ops Q rest (a.put o.dst v') w') : wpList P ops Q (o :: rest) a w := by
  obtain ⟨hw, hs, c, hx, h⟩ := h
  refine arm_app hT ho ⟨hw, base, v, l.length, l.map Value.bool, some ⟨b, 0, none⟩, 1, c, [.bool n], hs, hx, hown, by simp, fun h0 => ⟨b, 0, rfl, fun j u hu => ?_⟩, fun u hu => ?_, by unfold maxLen; omega, by omega, hbase, fun v' w' h2 h3 h4 _ => h v' w' ?_ h3⟩
  · obtain rfl : j = 0 := by have := (List.getElem?_eq_some_iff.1 hu).1; simpa using this
    rw [Nat.zero_add]
    have : u = .bool n := by simpa using hu.symm
    subst this
    exact cell_of hsrc rfl
  · simp at hu; subst hu; rfl
  · unfold OwnB; rw [List.length_append, List.map_append]; exact h2
end
def RetBools (w : World) (l : List Bool) (e : Ending) (w' : World) : Prop := ∃ v, e = .returned v ∧ OwnB w' w.heap.size v l ∧ Below w.heap.size w w'
theorem steps_len (n : Nat) : ∀ i, (steps i n).length ≤ n := by
  induction n using Nat.strongRecOn with
  | _ n ih =>
    intro i
    by_cases h1 : n ≤ 1
    · rw [steps_one i n h1]; simp
    · have a := hf_lt n (by omega)
      have b := hf_pos n
      by_cases hk : hf n ≤ i
      · rw [steps_right i n h1 hk, List.length_cons]; have := ih (n - hf n) (by omega) (i - hf n); omega
      · rw [steps_left i n h1 hk, List.length_cons]; have := ih (hf n) a i; omega
set_option maxHeartbeats 8000000 in
theorem c_steps (i n : Nat) (hi : i < n) (hn : n ≤ 1048576) (w : World) : Calls Tryd.prog 48 #[.int .i64 i, .int .i64 n] w (RetBools w (steps i n)) := by
  obtain ⟨S, hS⟩ : ∃ S, S = steps i n := ⟨_, rfl⟩
  rw [← hS]
  have hSl : S.length ≤ n := by rw [hS]; exact steps_len n i
  have HSl := hid hSl
  clear hSl
  go_enter Tryd.func48, Tryd.ntmps48
  go_wp2_with fail
  go_loopg [0, 1, 5] n (fun N x y v wr => ∃ I : Nat, ∃ out : List Bool, x = .int .i64 I ∧ y = .int .i64 N ∧ I < N ∧ N ≤ 1048576 ∧ Hid (S = out ++ steps I N) ∧ OwnB wr w.heap.size v out ∧ Below w.heap.size w wr)
  case atStart => exact ⟨i, [], rfl, rfl, hi, hn, by show _ = _; rw [hS]; rfl, OwnB.nil _ _, Below.refl _ _⟩
  case round =>
    obtain ⟨I, out, rfl, rfl, hIN, hN, HS, hO, hB⟩ := hrel
    have hz := hB.size
    by_cases h1 : gk ≤ 1
    · have d1 : decide ((1 : Int) < (gk : Int)) = false := by rw [decide_eq_false_iff_not]; omega
      have e := HS.out
      rw [steps_one I gk h1, List.append_nil] at e
      rw [← e] at hO
      go_wp2_with fail
      go_ret
      exact ⟨_, rfl, hO, hB⟩
    · have d1 : decide ((1 : Int) < (gk : Int)) = true := by rw [decide_eq_true_iff]; omega
      have hhl := hf_lt gk (by omega)
      have hhp := hf_pos gk
      have hlen : out.length + 1 ≤ 100000000 := by
        have a := HSl.out
        have b : S.length = out.length + (steps I gk).length := by rw [HS.out, List.length_append]
        omega
      have C50 := fun W => c_refHalf gk (by omega) (by omega) W
      obtain ⟨K, hK⟩ : ∃ K, K = hf gk := ⟨_, rfl⟩
      rw [← hK] at hhl hhp C50
      have CH := hid C50
      have HK := hid hK
      clear C50 hK
      obtain ⟨A, c, rfl, hc, _⟩ := hO.form
      by_cases hk : K ≤ I
      · have d2 : decide ((K : Int) ≤ (I : Int)) = true := by rw [decide_eq_true_iff]; omega
        have l2 : IntKind.i64.wrap ((I : Int) - (K : Int)) = (I : Int) - (K : Int) := wrap64 _ (by omega) (by omega)
        have l3 : IntKind.i64.wrap ((gk : Int) - (K : Int)) = (gk : Int) - (K : Int) := wrap64 _ (by omega) (by omega)
        have HS2 : Hid (S = (out ++ [true]) ++ steps (I - K) (gk - K)) := by
          show _ = _
          rw [HS.out, steps_right I gk h1 (by rw [← HK.out]; exact hk), ← HK.out, List.append_assoc]; rfl
        go_wp2_with (first | (go_at_call 51; (with_reducible refine (CH.out _).mono ?_); rintro e w1 ⟨rfl, rfl⟩) | (at_builtin; refine arm_appL elem4 rfl (n := true) (base := w.heap.size) (OwnB.alloc hO _) (heap_alloc_new _ _) hlen (by simp; omega) ?_; refine ⟨rfl, rfl, _, rfl, ?_⟩; intro v2 w2 hO2 hb2))
        go_roundg (gk - K)
        case measure => omega
        case rel => exact ⟨I - K, out ++ [true], by rw [show ((I - K : Nat) : Int) = (I : Int) - (K : Int) by omega], by rw [show ((gk - K : Nat) : Int) = (gk : Int) - (K : Int) by omega], by omega, by omega, HS2, hO2, by (with_reducible repeat (first | assumption | exact Below.refl _ _ | (refine b4 ?_ ?_; focus (first | omega | (simp <;> omega))) | refine b2 ?_ | refine Below.drew ?_ | (refine b5 ?_ ?_; focus (first | omega | (simp <;> omega))) | (refine b1 ?_ ?_; focus (first | omega | (simp <;> omega))) | (refine b3 (by assumption) ?_ ?_; focus (first | omega | (simp <;> omega))) | (refine b6 (by assumption) ?_ ?_; focus (first | omega | (simp <;> omega)))))⟩
      · have d2 : decide ((K : Int) ≤ (I : Int)) = false := by rw [decide_eq_false_iff_not]; omega
        have HS2 : Hid (S = (out ++ [false]) ++ steps I K) := by
          show _ = _
          rw [HS.out, steps_left I gk h1 (by rw [← HK.out]; exact hk), ← HK.out, List.append_assoc]; rfl
        go_wp2_with (first | (go_at_call 51; (with_reducible refine (CH.out _).mono ?_); rintro e w1 ⟨rfl, rfl⟩) | (at_builtin; refine arm_appL elem4 rfl (n := false) (base := w.heap.size) (OwnB.alloc hO _) (heap_alloc_new _ _) hlen (by simp; omega) ?_; refine ⟨rfl, rfl, _, rfl, ?_⟩; intro v2 w2 hO2 hb2))
        go_roundg K
        case measure => omega
        case rel => exact ⟨I, out ++ [false], rfl, rfl, by omega, by omega, HS2, hO2, by (with_reducible repeat (first | assumption | exact Below.refl _ _ | (refine b4 ?_ ?_; focus (first | omega | (simp <;> omega))) | refine b2 ?_ | refine Below.drew ?_ | (refine b5 ?_ ?_; focus (first | omega | (simp <;> omega))) | (refine b1 ?_ ?_; focus (first | omega | (simp <;> omega))) | (refine b3 (by assumption) ?_ ?_; focus (first | omega | (simp <;> omega))) | (refine b6 (by assumption) ?_ ?_; focus (first | omega | (simp <;> omega)))))⟩
end Go.Proofs.YtfkeaglbfembnaaDoor.Mk5
