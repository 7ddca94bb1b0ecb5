/- Proofs by the chapter, where they lead, and what two of them that lead to one root come to: plain laws. -/
import Derived.Test.YtfkeaglbfembnaaDoorMk15
namespace Go.Proofs.YtfkeaglbfembnaaDoor.Mk16
open Go Go.RowKit Go.Proofs.YtfkeaglbfembnaaDoor.Arr Go.Proofs.YtfkeaglbfembnaaDoor.Sha1 Go.Proofs.YtfkeaglbfembnaaDoor.Sha2 Go.Proofs.YtfkeaglbfembnaaDoor.Sha7 Go.Proofs.YtfkeaglbfembnaaDoor.Sha8 Go.Proofs.YtfkeaglbfembnaaDoor.Sha12 Go.Proofs.YtfkeaglbfembnaaDoor.Sha17 Go.Proofs.YtfkeaglbfembnaaDoor.Mk1 Go.Proofs.YtfkeaglbfembnaaDoor.Mk2 Go.Proofs.YtfkeaglbfembnaaDoor.Mk4 Go.Proofs.YtfkeaglbfembnaaDoor.Mk5 Go.Proofs.YtfkeaglbfembnaaDoor.Mk6 Go.Proofs.YtfkeaglbfembnaaDoor.Mk8 Go.Proofs.YtfkeaglbfembnaaDoor.Mk15
set_option maxRecDepth 100000
set_option linter.unusedVariables false
set_option linter.unusedSimpArgs false
def dz : Dig := fun _ => 0#8
def dF (l : List Dig) (k : Nat) : Dig := l.getD k dz
theorem dF_last (l : List Dig) (d : Dig) : dF (l ++ [d]) l.length = d := by
  unfold dF; rw [List.getD_eq_getElem?_getD, List.getElem?_append_right (Nat.le_refl _), Nat.sub_self]; rfl
theorem dF_init (l m : List Dig) (k : Nat) (h : k < l.length) : dF (l ++ m) k = dF l k := by
  unfold dF; rw [List.getD_eq_getElem?_getD, List.getD_eq_getElem?_getD, List.getElem?_append_left h]
/-- The proof of the text at the place i. -/
noncomputable def prfL (ps : List Bytes8) (i : Nat) : List Dig :=
  if h : ps.length < 2 then [] else if i < hf ps.length then prfL (ps.take (hf ps.length)) i ++ [rootL (ps.drop (hf ps.length))]
    else prfL (ps.drop (hf ps.length)) (i - hf ps.length) ++ [rootL (ps.take (hf ps.length))]
termination_by ps.length
decreasing_by
  · have := hf_lt ps.length (by omega); rw [List.length_take]; omega
  · have := hf_pos ps.length; rw [List.length_drop]; omega
theorem prfL_few (ps : List Bytes8) (i : Nat) (h : ps.length < 2) : prfL ps i = [] := by rw [prfL, dif_pos h]
theorem prfL_left (ps : List Bytes8) (i : Nat) (h : ¬ ps.length < 2) (k : i < hf ps.length) : prfL ps i = prfL (ps.take (hf ps.length)) i ++ [rootL (ps.drop (hf ps.length))] := by rw [prfL, dif_neg h, if_pos k]
theorem prfL_right (ps : List Bytes8) (i : Nat) (h : ¬ ps.length < 2) (k : ¬ i < hf ps.length) : prfL ps i = prfL (ps.drop (hf ps.length)) (i - hf ps.length) ++ [rootL (ps.take (hf ps.length))] := by rw [prfL, dif_neg h, if_neg k]
theorem prfL_len : ∀ (n : Nat) (ps : List Bytes8) (i : Nat), ps.length = n → (prfL ps i).length = (steps i n).length := by
  intro n
  induction n using Nat.strongRecOn with
  | _ n ih =>
    intro ps i hn
    by_cases h1 : n ≤ 1
    · rw [prfL_few ps i (by omega), steps_one i n h1]; simp
    · have a := hf_lt n (by omega)
      have b := hf_pos n
      by_cases hk : i < hf n
      · rw [prfL_left ps i (by omega) (by rw [hn]; exact hk), steps_left i n h1 (by omega), List.length_append, List.length_cons, hn, ih (hf n) a _ i (by rw [List.length_take]; omega)]; simp
      · rw [prfL_right ps i (by omega) (by rw [hn]; exact hk), steps_right i n h1 (by omega), List.length_append, List.length_cons, hn, ih (n - hf n) (by omega) _ _ (by rw [List.length_drop]; omega)]; simp
/-- Where a leaf at the place i of n leads by m members. -/
def upF (d : Dig) (f : Nat → Dig) : Nat → Nat → Nat → Dig
  | 0, _, _ => d
  | m + 1, i, n => if n ≤ 1 then d else if i < hf n then nodeD (upF d f m i (hf n)) (f m) else nodeD (f m) (upF d f m (i - hf n) (n - hf n))
theorem upF_one (d : Dig) (f : Nat → Dig) (m i n : Nat) (h : n ≤ 1) : upF d f m i n = d := by
  cases m with
  | zero => rfl
  | succ m => unfold upF; rw [if_pos h]
theorem upF_left (d : Dig) (f : Nat → Dig) (m i n : Nat) (h : ¬ n ≤ 1) (k : i < hf n) : upF d f (m + 1) i n = nodeD (upF d f m i (hf n)) (f m) := by rw [upF, if_neg h, if_pos k]
theorem upF_right (d : Dig) (f : Nat → Dig) (m i n : Nat) (h : ¬ n ≤ 1) (k : ¬ i < hf n) : upF d f (m + 1) i n = nodeD (f m) (upF d f m (i - hf n) (n - hf n)) := by rw [upF, if_neg h, if_neg k]
theorem upF_congr (d : Dig) (f g : Nat → Dig) : ∀ (m i n : Nat), (∀ k, k < m → f k = g k) → upF d f m i n = upF d g m i n
  | 0, _, _, _ => rfl
  | m + 1, i, n, h => by
    unfold upF
    rw [upF_congr d f g m i (hf n) (fun k hk => h k (by omega)), upF_congr d f g m (i - hf n) (n - hf n) (fun k hk => h k (by omega)), h m (by omega)]
theorem lead_up (d : Dig) (f : Nat → Dig) : ∀ (m i n : Nat), i < n → (steps i n).length = m → leadF d f m i n = (upF d f m i n, true)
  | 0, i, n, h, e => by
    have h1 : n = 1 := by
      by_cases h2 : n ≤ 1
      · omega
      · by_cases hk : hf n ≤ i
        · rw [steps_right i n h2 hk] at e; simp at e
        · rw [steps_left i n h2 hk] at e; simp at e
    unfold leadF upF; rw [if_pos h1]
  | m + 1, i, n, h, e => by
    have h2 : ¬ n ≤ 1 := fun h2 => by rw [steps_one i n h2] at e; simp at e
    have hlt := hf_lt n (by omega)
    unfold leadF
    rw [if_neg (by omega)]
    by_cases hk : hf n ≤ i
    · rw [steps_right i n h2 hk] at e
      rw [if_neg (by omega), upF_right d f m i n h2 (by omega), lead_up d f m (i - hf n) (n - hf n) (by omega) (by simpa using e)]
    · rw [steps_left i n h2 hk] at e
      rw [if_pos (by omega), upF_left d f m i n h2 (by omega), lead_up d f m i (hf n) (by omega) (by simpa using e)]
theorem up_prf : ∀ (n : Nat) (ps : List Bytes8) (i : Nat), ps.length = n → i < n → upF (leafD (ps.getD i [])) (dF (prfL ps i)) (prfL ps i).length i n = rootL ps := by
  intro n
  induction n using Nat.strongRecOn with
  | _ n ih =>
    intro ps i hn hi
    by_cases h1 : n ≤ 1
    · rw [upF_one _ _ _ _ _ h1]
      match ps, hn with
      | [], hn => have := hn; rw [List.length_nil] at this; omega
      | [l], hn =>
        have h2 := hn
        rw [List.length_singleton] at h2
        obtain rfl : i = 0 := by omega
        rw [rootL_one]; rfl
      | _ :: _ :: _, hn => have := hn; rw [List.length_cons, List.length_cons] at this; omega
    · have a := hf_lt n (by omega)
      have b := hf_pos n
      have hr := rootL_more ps (by omega)
      rw [hn] at hr
      by_cases hk : i < hf n
      · have e := prfL_left ps i (by omega) (by rw [hn]; exact hk)
        rw [hn] at e
        rw [e, List.length_append, List.length_singleton, upF_left _ _ _ _ _ h1 hk, dF_last, hr]
        have h3 := ih (hf n) a (ps.take (hf n)) i (by rw [List.length_take]; omega) hk
        have eg : (ps.take (hf n)).getD i [] = ps.getD i [] := by rw [List.getD_eq_getElem?_getD, List.getD_eq_getElem?_getD, List.getElem?_take, if_pos hk]
        rw [eg] at h3
        rw [← h3, upF_congr _ _ (dF (prfL (ps.take (hf n)) i)) _ _ _ (fun k hk => dF_init _ _ k hk)]
      · have e := prfL_right ps i (by omega) (by rw [hn]; exact hk)
        rw [hn] at e
        rw [e, List.length_append, List.length_singleton, upF_right _ _ _ _ _ h1 hk, dF_last, hr]
        have h3 := ih (n - hf n) (by omega) (ps.drop (hf n)) (i - hf n) (by rw [List.length_drop]; omega) (by omega)
        have eg : (ps.drop (hf n)).getD (i - hf n) [] = ps.getD i [] := by rw [List.getD_eq_getElem?_getD, List.getD_eq_getElem?_getD, List.getElem?_drop, show hf n + (i - hf n) = i by omega]
        rw [eg] at h3
        rw [← h3, upF_congr _ _ (dF (prfL (ps.drop (hf n)) (i - hf n))) _ _ _ (fun k hk => dF_init _ _ k hk)]
/-- Do unlike pairs come to one digest somewhere? -/
def clashF (a b : Dig) (f g : Nat → Dig) : Nat → Nat → Nat → Bool
  | 0, _, _ => false
  | m + 1, i, n => if n ≤ 1 then false else
      if i < hf n then
        (if clashF a b f g m i (hf n) then true else if eq32 (upF a f m i (hf n)) (upF b g m i (hf n)) && eq32 (f m) (g m) then false else eq32 (nodeD (upF a f m i (hf n)) (f m)) (nodeD (upF b g m i (hf n)) (g m)))
      else
        (if clashF a b f g m (i - hf n) (n - hf n) then true else if eq32 (upF a f m (i - hf n) (n - hf n)) (upF b g m (i - hf n) (n - hf n)) && eq32 (f m) (g m) then false
          else eq32 (nodeD (f m) (upF a f m (i - hf n) (n - hf n))) (nodeD (g m) (upF b g m (i - hf n) (n - hf n))))
theorem clashF_one (a b : Dig) (f g : Nat → Dig) (m i n : Nat) (h : n ≤ 1) : clashF a b f g m i n = false := by
  cases m with
  | zero => rfl
  | succ m => unfold clashF; rw [if_pos h]
theorem clashF_left (a b : Dig) (f g : Nat → Dig) (m i n : Nat) (h : ¬ n ≤ 1) (k : i < hf n) : clashF a b f g (m + 1) i n =
    (if clashF a b f g m i (hf n) then true else if eq32 (upF a f m i (hf n)) (upF b g m i (hf n)) && eq32 (f m) (g m) then false else eq32 (nodeD (upF a f m i (hf n)) (f m)) (nodeD (upF b g m i (hf n)) (g m))) := by
  rw [clashF, if_neg h, if_pos k]
theorem clashF_right (a b : Dig) (f g : Nat → Dig) (m i n : Nat) (h : ¬ n ≤ 1) (k : ¬ i < hf n) : clashF a b f g (m + 1) i n =
    (if clashF a b f g m (i - hf n) (n - hf n) then true else if eq32 (upF a f m (i - hf n) (n - hf n)) (upF b g m (i - hf n) (n - hf n)) && eq32 (f m) (g m) then false
      else eq32 (nodeD (f m) (upF a f m (i - hf n) (n - hf n))) (nodeD (g m) (upF b g m (i - hf n) (n - hf n)))) := by
  rw [clashF, if_neg h, if_neg k]
/-- Unlike leaves or unlike proofs that come to one root: unlike pairs come to one digest. -/
theorem clash_true (a b : Dig) (f g : Nat → Dig) : ∀ (m i n : Nat), i < n → (steps i n).length = m → eq32 (upF a f m i n) (upF b g m i n) = true → ¬ (eq32 a b = true ∧ ∀ k, k < m → eq32 (f k) (g k) = true) → clashF a b f g m i n = true
  | 0, i, n, h, e, hu, hne => by
    unfold upF at hu
    exact absurd ⟨hu, fun k hk => absurd hk (by omega)⟩ hne
  | m + 1, i, n, h, e, hu, hne => by
    have h2 : ¬ n ≤ 1 := fun h2 => by rw [steps_one i n h2] at e; simp at e
    have hlt := hf_lt n (by omega)
    have key : ∀ j q, j < q → (steps j q).length = m → (eq32 (upF a f m j q) (upF b g m j q) && eq32 (f m) (g m)) = true → clashF a b f g m j q = true := by
      intro j q hj hs hb
      rw [Bool.and_eq_true] at hb
      refine clash_true a b f g m j q hj hs hb.1 fun hc => hne ⟨hc.1, fun k hk => ?_⟩
      by_cases hkm : k = m
      · subst hkm; exact hb.2
      · exact hc.2 k (by omega)
    by_cases hk : hf n ≤ i
    · rw [steps_right i n h2 hk] at e
      rw [upF_right a f m i n h2 (by omega), upF_right b g m i n h2 (by omega)] at hu
      rw [clashF_right a b f g m i n h2 (by omega)]
      by_cases hb : (eq32 (upF a f m (i - hf n) (n - hf n)) (upF b g m (i - hf n) (n - hf n)) && eq32 (f m) (g m)) = true
      · rw [if_pos (key (i - hf n) (n - hf n) (by omega) (by simpa using e) hb)]
      · rw [if_neg hb, hu]; split <;> rfl
    · rw [steps_left i n h2 hk] at e
      rw [upF_left a f m i n h2 (by omega), upF_left b g m i n h2 (by omega)] at hu
      rw [clashF_left a b f g m i n h2 (by omega)]
      by_cases hb : (eq32 (upF a f m i (hf n)) (upF b g m i (hf n)) && eq32 (f m) (g m)) = true
      · rw [if_pos (key i (hf n) (by omega) (by simpa using e) hb)]
      · rw [if_neg hb, hu]; split <;> rfl
theorem nodeD_congr {x x' y y' : Dig} (hx : eq32 x x' = true) (hy : eq32 y y' = true) : nodeD x y = nodeD x' y' := by
  unfold nodeD
  rw [rowL_congr 32 x x' ((eq32_iff _ _).1 hx), rowL_congr 32 y y' ((eq32_iff _ _).1 hy)]
theorem up_eq (a b : Dig) (f : Nat → Dig) (h : eq32 a b = true) : ∀ (m i n : Nat), eq32 (upF a f m i n) (upF b f m i n) = true
  | 0, _, _ => h
  | m + 1, i, n => by
    unfold upF
    split
    · exact h
    · split
      · rw [nodeD_congr (up_eq a b f h m i (hf n)) (eq32_refl _)]; exact eq32_refl _
      · rw [nodeD_congr (eq32_refl _) (up_eq a b f h m (i - hf n) (n - hf n))]; exact eq32_refl _
theorem eq32_symm {x y : Dig} (h : eq32 x y = true) : eq32 y x = true := (eq32_iff _ _).2 fun i hi => ((eq32_iff _ _).1 h i hi).symm
theorem eq32_trans {x y z : Dig} (h : eq32 x y = true) (k : eq32 y z = true) : eq32 x z = true := (eq32_iff _ _).2 fun i hi => ((eq32_iff _ _).1 h i hi).trans ((eq32_iff _ _).1 k i hi)
/-- A proof is right at its place. -/
theorem check_own (ps : List Bytes8) (i : Nat) (hi : i < ps.length) : checkB (rootL ps) (ps.getD i []) (dF (prfL ps i)) (prfL ps i).length i ps.length = true := by
  unfold checkB
  rw [lead_up _ _ _ _ _ hi (prfL_len _ ps i rfl).symm, up_prf _ ps i rfl hi]
  rw [Bool.true_and]; exact eq32_refl _
/-- What a right proof says. -/
theorem check_says (root : Dig) (t : Bytes8) (f : Nat → Dig) (m i n : Nat) (hi : i < n) (h : checkB root t f m i n = true) : (steps i n).length = m ∧ eq32 (upF (leafD t) f m i n) root = true := by
  unfold checkB at h
  rw [Bool.and_eq_true] at h
  have h1 := h.1
  rw [(lead_chk (leafD t) f m i n hi).1] at h1
  have h2 : (steps i n).length = m := by simpa using h1
  have h3 := h.2
  rw [lead_up _ _ _ _ _ hi h2] at h3
  exact ⟨h2, h3⟩
/-- Another text at the place: right just if its leaf is the same, or there is a clash. -/
theorem prove_other (ps : List Bytes8) (o : Bytes8) (i : Nat) (hi : i < ps.length) (h : checkB (rootL ps) o (dF (prfL ps i)) (prfL ps i).length i ps.length ≠ eq32 (leafD (ps.getD i [])) (leafD o)) :
    clashF (leafD (ps.getD i [])) (leafD o) (dF (prfL ps i)) (dF (prfL ps i)) (prfL ps i).length i ps.length = true := by
  have hl := (prfL_len _ ps i rfl).symm
  have hu := up_prf _ ps i rfl hi
  by_cases hc : checkB (rootL ps) o (dF (prfL ps i)) (prfL ps i).length i ps.length = true
  · obtain ⟨_, h2⟩ := check_says _ _ _ _ _ _ hi hc
    refine clash_true _ _ _ _ _ _ _ hi hl (by rw [hu]; exact eq32_symm h2) fun hh => h ?_
    rw [hc, hh.1]
  · exfalso
    have hf : eq32 (leafD (ps.getD i [])) (leafD o) = true := by
      cases e : eq32 (leafD (ps.getD i [])) (leafD o)
      · rw [e] at h; simp at hc; exact absurd hc h
      · rfl
    apply hc
    unfold checkB
    rw [lead_up _ _ _ _ _ hi hl, Bool.true_and, ← hu]
    exact eq32_symm (up_eq _ _ _ hf _ _ _)
/-- A proof at another place. -/
theorem prove_place (ps : List Bytes8) (i j : Nat) (hi : i < ps.length) (hj : j < ps.length) (h : checkB (rootL ps) (ps.getD i []) (dF (prfL ps i)) (prfL ps i).length j ps.length = true) :
    (prfL ps i).length = (prfL ps j).length ∧ (eq32 (leafD (ps.getD i [])) (leafD (ps.getD j [])) = false → clashF (leafD (ps.getD i [])) (leafD (ps.getD j [])) (dF (prfL ps i)) (dF (prfL ps j)) (prfL ps i).length j ps.length = true) := by
  obtain ⟨h1, h2⟩ := check_says _ _ _ _ _ _ hj h
  have hlj := prfL_len _ ps j rfl
  have he : (prfL ps i).length = (prfL ps j).length := by rw [← h1, hlj]
  refine ⟨he, fun hne => ?_⟩
  have hu := up_prf _ ps j rfl hj
  refine clash_true _ _ _ _ _ _ _ hj h1 ?_ fun hh => by rw [hh.1] at hne; cases hne
  rw [he, hu, ← he]; exact h2
/-- A turned proof. -/
theorem prove_turned (ps : List Bytes8) (g : Nat → Dig) (i : Nat) (hi : i < ps.length) (hg : ∃ k, k < (prfL ps i).length ∧ eq32 (dF (prfL ps i) k) (g k) = false) (h : checkB (rootL ps) (ps.getD i []) g (prfL ps i).length i ps.length = true) :
    clashF (leafD (ps.getD i [])) (leafD (ps.getD i [])) (dF (prfL ps i)) g (prfL ps i).length i ps.length = true := by
  obtain ⟨h1, h2⟩ := check_says _ _ _ _ _ _ hi h
  obtain ⟨k, hk, hne⟩ := hg
  refine clash_true _ _ _ _ _ _ _ hi h1 ?_ fun hh => by rw [hh.2 k hk] at hne; cases hne
  rw [up_prf _ ps i rfl hi]; exact eq32_symm h2
/-- A proof of another length. -/
theorem prove_length (root : Dig) (t : Bytes8) (f : Nat → Dig) (m i n : Nat) (hi : i < n) (h : (steps i n).length ≠ m) : checkB root t f m i n = false := by
  cases e : checkB root t f m i n
  · rfl
  · exact absurd (check_says _ _ _ _ _ _ hi e).1 h
end Go.Proofs.YtfkeaglbfembnaaDoor.Mk16
