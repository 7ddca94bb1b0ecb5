/- The reference's first primes. -/
import Derived.WalkKit
import Derived.StillTactics
import Derived.Outline
import Derived.Test.YtfkeaglbfembnaaDoorRoot4
import Derived.Test.YtfkeaglbfembnaaDoorApp
namespace Go.Proofs.YtfkeaglbfembnaaDoor.Root5
open Go Go.RowKit Go.Proofs.YtfkeaglbfembnaaDoor.Arr Go.Proofs.YtfkeaglbfembnaaDoor.App Go.Proofs.YtfkeaglbfembnaaDoor.Sha2 Go.Proofs.YtfkeaglbfembnaaDoor.Root1 Go.Proofs.YtfkeaglbfembnaaDoor.Root2 Go.Proofs.YtfkeaglbfembnaaDoor.Root3 Go.Proofs.YtfkeaglbfembnaaDoor.Root4
set_option maxRecDepth 100000
set_option linter.unusedVariables false
set_option linter.unusedSimpArgs false
/-- No one of these divides n. -/
def okL (n : Nat) (L : List Nat) : Bool := L.all fun q => n % q != 0
/-- The primes from 2 on, below k + 2. -/
def prs : Nat → List Nat
  | 0 => []
  | k + 1 => if okL (k + 2) (prs k) then prs k ++ [k + 2] else prs k
def P64 : List Nat := [2, 3, 5, 7, 11, 13, 17, 19, 23, 29, 31, 37, 41, 43, 47, 53, 59, 61, 67, 71, 73, 79, 83, 89, 97, 101, 103, 107, 109, 113, 127, 131, 137, 139, 149, 151, 157, 163, 167, 173, 179, 181, 191, 193, 197, 199, 211, 223, 227, 229, 233, 239, 241, 251, 257, 263, 269, 271, 277, 281, 283, 293, 307, 311]
theorem prs_all : prs 310 = P64 := by decide +kernel
theorem prs_last : (prs 309).length = 63 := by decide +kernel
theorem prs_step (k : Nat) : prs (k + 1) = if okL (k + 2) (prs k) then prs k ++ [k + 2] else prs k := rfl
theorem prs_len_le (k d : Nat) : (prs k).length ≤ (prs (k + d)).length := by
  induction d with
  | zero => exact Nat.le_refl _
  | succ d ih =>
    refine Nat.le_trans ih ?_
    rw [← Nat.add_assoc, prs_step]
    split
    · simp
    · exact Nat.le_refl _
theorem prs_short (k : Nat) (h : k ≤ 309) : (prs k).length < 64 := by
  have := prs_len_le k (309 - k)
  rw [show k + (309 - k) = 309 by omega, prs_last] at this
  omega
theorem prs_two (k : Nat) : ∀ q, q ∈ prs k → 2 ≤ q ∧ q < k + 2 := by
  induction k with
  | zero => intro q h; cases h
  | succ k ih =>
    intro q h
    rw [prs_step] at h
    split at h
    · rw [List.mem_append, List.mem_singleton] at h
      rcases h with h | h
      · have := ih q h; omega
      · omega
    · have := ih q h; omega
theorem prs_zero : prs 0 = [] := rfl
attribute [irreducible] prs
def u64 (n : Nat) : Value := .int .u64 (n : Nat)
/-- v is a slice of the call's own (blocks from base on) that holds the numbers l. -/
def OwnN (w : World) (base : Nat) (v : Value) (l : List Nat) : Prop := w.ownsRow base 36 1 v l.length (l.map u64)
theorem OwnN.nil (w : World) (base : Nat) : OwnN w base (.slice none 0 0) [] := World.ownsRow_nil _ _ _ _
theorem OwnN.below {w w' : World} {base : Nat} {v : Value} {l : List Nat} (h : OwnN w base v l) (hb : Below w.heap.size w w') : OwnN w' base v l := own_none h hb
theorem OwnN.alloc {w : World} {base : Nat} {v : Value} {l : List Nat} (h : OwnN w base v l) (o : Obj) : OwnN (w.alloc o) base v l := World.ownsRow.alloc h o
theorem OwnN.form {w : World} {base : Nat} {v : Value} {l : List Nat} (h : OwnN w base v l) : ∃ A c, v = .slice A l.length c ∧ l.length ≤ c ∧ (0 < l.length → ∃ g, A = some ⟨g, 0, none⟩ ∧ base ≤ g ∧ g < w.heap.size ∧ ∀ i, i < l.length → w.cell? ⟨g, i, none⟩ = some (u64 (l.getD i 0))) := by
  rcases h.2 with ⟨rfl, h0⟩ | ⟨g, cap, cur, rfl, hb, hg, hc, _, hs, ht⟩
  · exact ⟨none, 0, by rw [h0], by omega, fun h1 => by omega⟩
  · refine ⟨some ⟨g, 0, none⟩, cap, rfl, hc, fun _ => ⟨g, rfl, hb, lt_of hg, fun i hi => ?_⟩⟩
    rw [cell_of_row w g i cur 36 (0, 0) hg]
    have e : (l.map u64)[i]? = some (u64 (l.getD i 0)) := by
      rw [List.getElem?_map, List.getElem?_eq_getElem hi, List.getD_eq_getElem?_getD, List.getElem?_eq_getElem hi]; rfl
    rw [← ht, List.getElem?_take, if_pos (by omega), Array.getElem?_toList] at e
    exact e
theorem elem36 : ElemTy Tryd.prog 76 36 1 8 := by
  have h : (Tryd.prog.info? 36).map (fun i => (i.zero, i.size, i.bytes)) = some (some (.int .u64 0), 1, 8) := by kernel_rfl
  obtain ⟨i, hi, hz, hs, hb⟩ := info_parts h
  exact ⟨Tryd.underlying76, ⟨i, _, hi, hz, hs, hb, rfl⟩, by omega⟩
section
variable {P : Program}
theorem arm_appN {ops : Array Oper} {Q : Exit → Act → World → Prop} {rest : List Oper} {o : Oper} {a : Act} {w : World} {t : TypeId} (hT : ElemTy P t 36 1 8) {s x : Operand}
    (ho : o.op = .call { callee := .builtin .append, args := #[s, x], argTypes := #[t, t] }) {base b n : Nat} {v : Value} {l : List Nat} {tt : TypeId} {fr : Nat × Nat} (hown : OwnN w base v l) (hsrc : w.heap[b]? = some (.cells #[u64 n] tt fr)) (hlen : l.length + 1 ≤ 1000000) (hbase : base ≤ w.heap.size)
    (h : Region.wanted o (yielded ops a.tmps) = true ∧ a.eval s = v ∧ ∃ c, a.eval x = .slice (some ⟨b, 0, none⟩) 1 c ∧
      ∀ v' w', OwnN w' base v' (l ++ [n]) → Below base w w' → wpList P ops Q rest (a.put o.dst v') w') : wpList P ops Q (o :: rest) a w := by
  obtain ⟨hw, hs, c, hx, h⟩ := h
  refine arm_app hT ho ⟨hw, base, v, l.length, l.map u64, some ⟨b, 0, none⟩, 1, c, [u64 n], hs, hx, hown, by simp, fun h0 => ⟨b, 0, rfl, fun j u hu => ?_⟩, fun u hu => ?_, by unfold maxLen; omega, by omega, hbase, fun v' w' h2 h3 h4 _ => h v' w' ?_ h3⟩
  · obtain rfl : j = 0 := by have := (List.getElem?_eq_some_iff.1 hu).1; simpa using this
    rw [Nat.zero_add]
    have : u = u64 n := by simpa using hu.symm
    subst this
    exact cell_of hsrc rfl
  · simp at hu; subst hu; rfl
  · unfold OwnN; rw [List.length_append, List.map_append]; exact h2
end
theorem okL_succ (n : Nat) (L : List Nat) (t : Nat) (h : t < L.length) : okL n (L.take (t + 1)) = (okL n (L.take t) && (n % L.getD t 0 != 0)) := by
  unfold okL
  rw [List.take_add_one, List.all_append, List.getElem?_eq_getElem h, List.getD_eq_getElem?_getD, List.getElem?_eq_getElem h]
  simp
theorem okL_false (n : Nat) (L : List Nat) (t : Nat) (h : okL n (L.take t) = false) : okL n L = false := by
  unfold okL at *
  have e : L = L.take t ++ L.drop t := (List.take_append_drop t L).symm
  rw [e, List.all_append, h]; rfl
theorem rem_bool (n q : Nat) : (((n : Int) % (q : Int)) != 0) = (n % q != 0) := by
  rw [show (n : Int) % (q : Int) = ((n % q : Nat) : Int) from rfl]
  rw [Bool.eq_iff_iff, bne_iff_ne, bne_iff_ne]
  omega
attribute [irreducible] okL
/-- It returned a slice of its own that holds these numbers. -/
def RetNums (w : World) (l : List Nat) (e : Ending) (w' : World) : Prop := ∃ v, e = .returned v ∧ OwnN w' w.heap.size v l ∧ Below w.heap.size w w'
set_option maxHeartbeats 8000000 in
theorem c_primes (w : World) : Calls Tryd.prog 44 #[.int .i64 64] w (RetNums w P64) := by
  go_enter Tryd.func44, Tryd.ntmps44
  go_wp2_with fail
  go_loopg [3, 4] 310 (fun n v i wr => ∃ k : Nat, k + n = 310 ∧ i = .int .u64 ((k + 2 : Nat) : Int) ∧ OwnN wr w.heap.size v (prs k) ∧ Below w.heap.size w wr)
  case atStart => exact ⟨0, by omega, rfl, by rw [prs_zero]; exact OwnN.nil _ _, Below.refl _ _⟩
  case round =>
    obtain ⟨k, hk, rfl, hO, hB⟩ := hrel
    have HK := hid hk
    have hk2 : k ≤ 310 := by omega
    clear hk
    obtain ⟨A, c, rfl, hc, hcell⟩ := hO.form
    have hB0 := hB.size
    by_cases h310 : k < 310
    · have hlen := prs_short k (by omega)
      have h2 := prs_two k
      have hst := prs_step k
      obtain ⟨L, hL⟩ : ∃ L, L = prs k := ⟨_, rfl⟩
      rw [← hL] at hO hc hcell hlen h2 hst ⊢
      have HST := hid hst
      clear hst hL
      have d1 : decide ((L.length : Int) < 64) = true := by rw [decide_eq_true_iff]; omega
      go_wp2_with fail
      go_loopg [5, 6] L.length (fun n x i wr2 => ∃ t : Nat, t + n = L.length ∧ i = .int .i64 t ∧ x = .bool (okL (k + 2) (L.take t)) ∧ wr2 = wr)
      case atStart => exact ⟨0, by omega, rfl, by unfold okL; rfl, rfl⟩
      case round =>
        obtain ⟨t, ht, rfl, rfl, rfl⟩ := hrel
        have HT := hid ht
        have ht2 : t ≤ L.length := by omega
        clear ht
        by_cases htl : t < L.length
        · have d2 : decide ((t : Int) < (L.length : Int)) = true := by rw [decide_eq_true_iff]; omega
          by_cases hok : okL (k + 2) (L.take t) = true
          · obtain ⟨g, rfl, hg1, hg2, hcl⟩ := hcell (by omega)
            have hc1 := hcl t htl
            have hmem : L.getD t 0 ∈ L := by rw [List.getD_eq_getElem?_getD, List.getElem?_eq_getElem htl]; exact List.getElem_mem htl
            have hs := okL_succ (k + 2) L t htl
            obtain ⟨q, hq⟩ : ∃ q, q = L.getD t 0 := ⟨_, rfl⟩
            rw [← hq] at hc1 hmem hs
            have hq2 := h2 q hmem
            have HS := hid hs
            clear hs hcl hcell hq hmem h2
            unfold u64 at hc1
            have q1 : ((q : Int) == 0) = false := by rw [beq_eq_false_iff_ne]; omega
            have q2 : ((k + 2 : Nat) : Int).tmod (q : Int) = (((k + 2) % q : Nat) : Int) := by rw [Int.tmod_eq_emod_of_nonneg (by omega)]; rfl
            have l1 : (t : Int) < (L.length : Int) := by omega
            have l2 : (0 : Int) ≤ (t : Int) := by omega
            go_wp2_with fail
            go_roundg (L.length - (t + 1))
            case measure => have := HT.out; omega
            case rel => exact ⟨t + 1, by omega, by go_num, by rw [HS.out, hok, Bool.true_and, ← rem_bool]; rfl, rfl⟩
          · have hok2 : okL (k + 2) (L.take t) = false := by simpa using hok
            have hall := okL_false _ _ _ hok2
            rw [hok2]
            go_wp2_with fail
            go_roundg (310 - (k + 1))
            case measure => have := HK.out; omega
            case rel => exact ⟨k + 1, by omega, by go_num, by rw [HST.out, hall]; exact hO, hB⟩
        · have e : t = L.length := by omega
          subst e
          rw [List.take_length]
          have d2 : decide ((L.length : Int) < (L.length : Int)) = false := by rw [decide_eq_false_iff_not]; omega
          by_cases hok : okL (k + 2) L = true
          · rw [hok]
            go_wp2_with (at_builtin; refine arm_appN elem36 rfl (n := k + 2) (base := w.heap.size) (OwnN.alloc hO _) (heap_alloc_new _ _) (by omega) (by simp; omega) ?_; refine ⟨rfl, rfl, _, rfl, ?_⟩; intro v2 w2 hO2 hb2)
            go_roundg (310 - (k + 1))
            case measure => have := HK.out; omega
            case rel => exact ⟨k + 1, by omega, by go_num, by rw [HST.out, hok]; exact hO2, by (with_reducible repeat (first | assumption | exact Below.refl _ _ | (refine b4 ?_ ?_; focus (first | omega | (simp <;> omega))) | refine b2 ?_ | refine Below.drew ?_ | (refine b5 ?_ ?_; focus (first | omega | (simp <;> omega))) | (refine b1 ?_ ?_; focus (first | omega | (simp <;> omega))) | (refine b3 (by assumption) ?_ ?_; focus (first | omega | (simp <;> omega))) | (refine b6 (by assumption) ?_ ?_; focus (first | omega | (simp <;> omega)))))⟩
          · have hall : okL (k + 2) L = false := by simpa using hok
            rw [hall]
            go_wp2_with fail
            go_roundg (310 - (k + 1))
            case measure => have := HK.out; omega
            case rel => exact ⟨k + 1, by omega, by go_num, by rw [HST.out, hall]; exact hO, hB⟩
    · have e : k = 310 := by omega
      subst e
      rw [prs_all] at hO hc ⊢
      go_wp2_with fail
      go_ret
      exact ⟨_, rfl, hO, hB⟩
end Go.Proofs.YtfkeaglbfembnaaDoor.Root5
