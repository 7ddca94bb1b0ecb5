/- What a tree's root is the hash of; two lists of bytes compared as strings. -/
import Derived.WalkKit
import Derived.StillTactics
import Derived.Outline
import Derived.Deep.DeepCutAuto
import Derived.Deep.CutBlock
import Derived.Deep.DeepMust
import Derived.Laws.BytesArg
import Derived.Test.YtfkeaglbfembnaaDoorMk17
import Derived.Test.YtfkeaglbfembnaaDoorMk13
namespace Go.Proofs.YtfkeaglbfembnaaDoor.Mk25
open Go Go.RowKit Go.Proofs.YtfkeaglbfembnaaDoor.Arr Go.Proofs.YtfkeaglbfembnaaDoor.Mid Go.Proofs.YtfkeaglbfembnaaDoor.App Go.Proofs.YtfkeaglbfembnaaDoor.Sha1 Go.Proofs.YtfkeaglbfembnaaDoor.Sha2 Go.Proofs.YtfkeaglbfembnaaDoor.Sha4 Go.Proofs.YtfkeaglbfembnaaDoor.Sha5 Go.Proofs.YtfkeaglbfembnaaDoor.Sha6 Go.Proofs.YtfkeaglbfembnaaDoor.Sha7 Go.Proofs.YtfkeaglbfembnaaDoor.Sha8 Go.Proofs.YtfkeaglbfembnaaDoor.Sha9 Go.Proofs.YtfkeaglbfembnaaDoor.Sha10 Go.Proofs.YtfkeaglbfembnaaDoor.Sha12 Go.Proofs.YtfkeaglbfembnaaDoor.Sha13 Go.Proofs.YtfkeaglbfembnaaDoor.Sha17 Go.Proofs.YtfkeaglbfembnaaDoor.Mk1 Go.Proofs.YtfkeaglbfembnaaDoor.Mk2 Go.Proofs.YtfkeaglbfembnaaDoor.Mk3 Go.Proofs.YtfkeaglbfembnaaDoor.Mk4 Go.Proofs.YtfkeaglbfembnaaDoor.Mk8 Go.Proofs.YtfkeaglbfembnaaDoor.Mk9
set_option maxRecDepth 100000
set_option linter.unusedVariables false
set_option linter.unusedSimpArgs false
/-- A list of bytes as a string. -/
def strL (l : Bytes8) : ByteArray := strOfNums (l.map fun v => (v.toNat : Int))
theorem strL_inj {l m : Bytes8} (h : strL l = strL m) : l = m := by
  have e : (strL l).data.toList = (strL m).data.toList := by rw [h]
  unfold strL at e
  rw [strOfNums_data, strOfNums_data, List.map_map, List.map_map] at e
  have inj : ∀ (l m : Bytes8), l.map ((fun n : Int => UInt8.ofNat n.toNat) ∘ fun v : B8 => (v.toNat : Int)) = m.map ((fun n : Int => UInt8.ofNat n.toNat) ∘ fun v : B8 => (v.toNat : Int)) → l = m := by
    intro l
    induction l with
    | nil => intro m h; cases m with
      | nil => rfl
      | cons _ _ => simp at h
    | cons a l ih => intro m h; cases m with
      | nil => simp at h
      | cons b m =>
        rw [List.map_cons, List.map_cons] at h
        injection h with h1 h2
        rw [ih m h2]
        congr 1
        have h3 := congrArg UInt8.toNat h1
        simp only [Function.comp, Int.toNat_natCast, UInt8.toNat_ofNat'] at h3
        apply BitVec.eq_of_toNat_eq
        have := a.isLt; have := b.isLt
        omega
  exact inj l m e
theorem conv_bsl {w : World} {B : Nat} {A : Option Addr} {l : Bytes8} (h : BSl w B A l) (c : Nat) : (convert 29 9 (.slice A l.length c)).run Tryd.prog w = .ok (.string (strL l)) w := by
  by_cases h0 : 0 < l.length
  · obtain ⟨b, o, rfl, hb, hc⟩ := h h0
    refine run_convert_bytes_arg w 29 5 Tryd.underlying29 Tryd.underlying5 b o l.length c _ (by simp) (fun i hi => ?_) 9 Tryd.underlying9
    rw [hc i hi]
    unfold by8 lf
    congr 2
    rw [List.getD_eq_getElem?_getD, List.getD_eq_getElem?_getD, List.getElem?_map, List.getElem?_eq_getElem hi]; rfl
  · obtain rfl : l = [] := List.eq_nil_of_length_eq_zero (by omega)
    cases A with
    | none => exact run_convert_bytes_nil w 29 5 Tryd.underlying29 Tryd.underlying5 0 c 9 Tryd.underlying9
    | some a =>
      rw [run_convert_bytes_string w 29 9 5 _ _ c Tryd.underlying29 Tryd.underlying5 Tryd.underlying9]
      have hl : (loadCells a 0).run Tryd.prog w = .ok #[] w := by simp [loadCells, loadCellsFrom]
      rw [show ([] : Bytes8).length = 0 from rfl, run_bytesToString w a 0 c [] (by simpa using hl)]
      rfl
set_option maxHeartbeats 400000 in
theorem c_beq (A A' : Option Addr) (l m : Bytes8) (c c' B : Nat) (w : World) (h : BSl w B A l) (h' : BSl w B A' m) :
    Calls Tryd.prog 55 #[.slice A l.length c, .slice A' m.length c'] w fun e w' => e = .returned (.bool (decide (l = m))) ∧ w = w' := by
  have k1 := conv_bsl h c
  have k2 := conv_bsl h' c'
  obtain ⟨s, hs⟩ : ∃ s, s = strL l := ⟨_, rfl⟩
  obtain ⟨t, ht⟩ : ∃ t, t = strL m := ⟨_, rfl⟩
  have hst : (s.toList == t.toList) = decide (l = m) := by
    rw [hs, ht, ByteArray.toList_eq, ByteArray.toList_eq]
    by_cases e : l = m
    · subst e; simp
    · have : (strL l).data.toList ≠ (strL m).data.toList := fun h => e (strL_inj (ByteArray.ext (Array.toList_inj.1 h)))
      rw [beq_eq_false_iff_ne.2 this, decide_eq_false e]
  rw [← hs] at k1
  rw [← ht] at k2
  clear hs ht
  go_enter Tryd.func55, Tryd.ntmps55
  go_wp2_with fail
  go_ret
  exact ⟨rfl, rfl⟩
/-- What a tree's root is the hash of. -/
noncomputable def saidL (ps : List Bytes8) : Bytes8 :=
  if ps.length = 0 then [2#8] else if ps.length = 1 then 0#8 :: ps.getD 0 [] else 1#8 :: (rowL 32 (rootL (ps.take (hf ps.length))) ++ rowL 32 (rootL (ps.drop (hf ps.length))))
theorem saidL_zero : saidL [] = [2#8] := by unfold saidL; rw [if_pos (by simp)]
theorem saidL_one (l : Bytes8) : saidL [l] = 0#8 :: l := by unfold saidL; rw [if_neg (by simp), if_pos (by simp)]; rfl
theorem saidL_more (ps : List Bytes8) (h : ¬ ps.length < 2) : saidL ps = 1#8 :: (rowL 32 (rootL (ps.take (hf ps.length))) ++ rowL 32 (rootL (ps.drop (hf ps.length)))) := by
  unfold saidL; rw [if_neg (by omega), if_neg (by omega)]
theorem said_root (ps : List Bytes8) : shaL (saidL ps) = rootL ps := by
  by_cases h : ps.length < 2
  · match ps, h with
    | [], _ => rw [saidL_zero, rootL_zero]
    | [l], _ => rw [saidL_one, rootL_one, leafD]
    | _ :: _ :: _, h => simp at h; omega
  · rw [saidL_more ps h, rootL_more ps h, nodeD]
theorem said_len (ps : List Bytes8) (n : Nat) (h : ∀ j, j < ps.length → (ps.getD j []).length ≤ n) : (saidL ps).length ≤ n + 65 := by
  by_cases h2 : ps.length < 2
  · match ps, h2 with
    | [], _ => rw [saidL_zero]; simp
    | [l], _ => rw [saidL_one]; have := h 0 (by simp); simp at this ⊢; omega
    | _ :: _ :: _, h => simp at h; omega
  · rw [saidL_more ps h2, List.length_cons, List.length_append, rowL_len, rowL_len]; omega
/-- The same is said of two trees, of which one has less than two texts: the texts are the same. -/
theorem said_few (a b : List Bytes8) (h : saidL a = saidL b) (hf : a.length < 2 ∨ b.length < 2) : a = b := by
  have head : ∀ ps : List Bytes8, (saidL ps).headD 9#8 = if ps.length = 0 then 2#8 else if ps.length = 1 then 0#8 else 1#8 := by
    intro ps
    by_cases h2 : ps.length < 2
    · match ps, h2 with
      | [], _ => rw [saidL_zero]; rfl
      | [l], _ => rw [saidL_one]; rfl
      | _ :: _ :: _, h => simp at h; omega
    · rw [saidL_more ps h2, if_neg (by omega), if_neg (by omega)]; rfl
  have e := head a
  rw [h, head b] at e
  have n01 : (0#8 : B8) ≠ 1#8 := by decide
  have n02 : (0#8 : B8) ≠ 2#8 := by decide
  have n12 : (1#8 : B8) ≠ 2#8 := by decide
  have hlen : (a.length = 0 ∧ b.length = 0) ∨ (a.length = 1 ∧ b.length = 1) := by
    by_cases a0 : a.length = 0
    · rw [if_pos a0] at e
      by_cases b0 : b.length = 0
      · exact .inl ⟨a0, b0⟩
      · rw [if_neg b0] at e
        by_cases b1 : b.length = 1
        · rw [if_pos b1] at e; exact absurd e n02
        · rw [if_neg b1] at e; exact absurd e n12
    · rw [if_neg a0] at e
      by_cases a1 : a.length = 1
      · rw [if_pos a1] at e
        by_cases b0 : b.length = 0
        · rw [if_pos b0] at e; exact absurd e.symm n02
        · rw [if_neg b0] at e
          by_cases b1 : b.length = 1
          · exact .inr ⟨a1, b1⟩
          · rw [if_neg b1] at e; exact absurd e.symm n01
      · rw [if_neg a1] at e
        by_cases b0 : b.length = 0
        · rw [if_pos b0] at e; exact absurd e.symm n12
        · rw [if_neg b0] at e
          by_cases b1 : b.length = 1
          · rw [if_pos b1] at e; exact absurd e n01
          · omega
  rcases hlen with ⟨h1, h2⟩ | ⟨h1, h2⟩
  · rw [List.eq_nil_of_length_eq_zero h1, List.eq_nil_of_length_eq_zero h2]
  · match a, b, h1, h2 with
    | [x], [y], _, _ =>
      rw [saidL_one, saidL_one] at h
      injection h with _ h3
      rw [h3]
theorem rowL_eq {x y : Dig} (h : rowL 32 x = rowL 32 y) : eq32 x y = true := by
  rw [eq32_iff]
  intro i hi
  rw [← rowL_at 32 x i hi, ← rowL_at 32 y i hi, h]
/-- .. of which both have more: both halves' roots are the same. -/
theorem said_more (a b : List Bytes8) (h : saidL a = saidL b) (ha : ¬ a.length < 2) (hb : ¬ b.length < 2) : eq32 (rootL (a.take (hf a.length))) (rootL (b.take (hf b.length))) = true ∧ eq32 (rootL (a.drop (hf a.length))) (rootL (b.drop (hf b.length))) = true := by
  rw [saidL_more a ha, saidL_more b hb] at h
  injection h with _ h
  obtain ⟨h1, h2⟩ := List.append_inj h (by rw [rowL_len, rowL_len])
  exact ⟨rowL_eq h1, rowL_eq h2⟩
end Go.Proofs.YtfkeaglbfembnaaDoor.Mk25
