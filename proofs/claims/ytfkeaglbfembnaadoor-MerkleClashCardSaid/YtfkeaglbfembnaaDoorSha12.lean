/- Tags compared, lists of bytes compared, the size of parts, what the program is asked first. -/
import Derived.WalkKit
import Derived.StillTactics
import Derived.Outline
import Derived.Lib.SlBytesConst
import Derived.Test.YtfkeaglbfembnaaDoorSha9
import Derived.Test.YtfkeaglbfembnaaDoorSha11
namespace Go.Proofs.YtfkeaglbfembnaaDoor.Sha12
open Go Go.RowKit Go.Proofs.YtfkeaglbfembnaaDoor.Arr Go.Proofs.YtfkeaglbfembnaaDoor.Mid Go.Proofs.YtfkeaglbfembnaaDoor.App Go.Proofs.YtfkeaglbfembnaaDoor.Sha1 Go.Proofs.YtfkeaglbfembnaaDoor.Sha2 Go.Proofs.YtfkeaglbfembnaaDoor.Sha4 Go.Proofs.YtfkeaglbfembnaaDoor.Sha5 Go.Proofs.YtfkeaglbfembnaaDoor.Sha6 Go.Proofs.YtfkeaglbfembnaaDoor.Sha7 Go.Proofs.YtfkeaglbfembnaaDoor.Sha8 Go.Proofs.YtfkeaglbfembnaaDoor.Sha9 Go.Proofs.YtfkeaglbfembnaaDoor.Sha11
set_option maxRecDepth 100000
set_option linter.unusedVariables false
set_option linter.unusedSimpArgs false
theorem wrap8_toNat (v : B8) : IntKind.u8.wrap (v.toNat : Int) = (v.toNat : Int) := by
  have := v.isLt
  simp only [IntKind.wrap, IntKind.bits, IntKind.signed]
  simp only [Bool.false_and, Bool.false_eq_true, if_false]
  omega
theorem ofInt8_toNat (v : B8) : BitVec.ofInt 8 (v.toNat : Int) = v := by
  apply BitVec.eq_of_toNat_eq; simp
theorem b8_xor (a b : B8) : bits .xor .u8 (a.toNat : Int) (b.toNat : Int) = ((a ^^^ b).toNat : Int) := by
  show IntKind.u8.wrap ((BitVec.ofInt 8 (a.toNat : Int) ^^^ BitVec.ofInt 8 (b.toNat : Int)).toNat : Int) = _
  rw [ofInt8_toNat, ofInt8_toNat, wrap8_toNat]
theorem b8_or (a b : B8) : bits .or .u8 (a.toNat : Int) (b.toNat : Int) = ((a ||| b).toNat : Int) := by
  show IntKind.u8.wrap ((BitVec.ofInt 8 (a.toNat : Int) ||| BitVec.ofInt 8 (b.toNat : Int)).toNat : Int) = _
  rw [ofInt8_toNat, ofInt8_toNat, wrap8_toNat]
/-- Are two rows of 32 bytes the same? -/
def eq32 (f g : Nat → B8) : Bool := (List.range 32).all fun i => f i == g i
theorem eq32_iff (f g : Nat → B8) : eq32 f g = true ↔ ∀ i, i < 32 → f i = g i := by
  unfold eq32; rw [List.all_eq_true]; simp
theorem eq32_refl (f : Nat → B8) : eq32 f f = true := (eq32_iff f f).2 fun _ _ => rfl
attribute [irreducible] eq32
/-- What differs so far. -/
def dif (f g : Nat → B8) : Nat → B8
  | 0 => 0#8
  | t + 1 => dif f g t ||| (f t ^^^ g t)
theorem or_zero (a b : B8) : (a ||| b = 0#8) ↔ a = 0#8 ∧ b = 0#8 := by
  constructor
  · intro h
    constructor <;> apply BitVec.eq_of_getLsbD_eq <;> intro i hi <;> have := congrArg (fun x => x.getLsbD i) h <;> simp at this <;> simp [this]
  · rintro ⟨rfl, rfl⟩; rfl
theorem xor_zero (a b : B8) : (a ^^^ b = 0#8) ↔ a = b := by
  constructor
  · intro h
    have h2 : (a ^^^ b) ^^^ b = 0#8 ^^^ b := by rw [h]
    rw [BitVec.xor_assoc, BitVec.xor_self] at h2
    simpa using h2
  · rintro rfl; exact BitVec.xor_self
theorem dif_zero (f g : Nat → B8) : ∀ t, dif f g t = 0#8 ↔ ∀ i, i < t → f i = g i
  | 0 => ⟨fun _ i h => absurd h (by omega), fun _ => rfl⟩
  | t + 1 => by
    unfold dif
    rw [or_zero, xor_zero, dif_zero f g t]
    constructor
    · rintro ⟨h1, h2⟩ i hi
      by_cases e : i = t
      · subst e; exact h2
      · exact h1 i (by omega)
    · intro h; exact ⟨fun i hi => h i (by omega), h t (by omega)⟩
theorem dif_val (f g : Nat → B8) (t : Nat) : bits .or .u8 ((dif f g t).toNat : Int) (bits .xor .u8 ((f t).toNat : Int) ((g t).toNat : Int)) = ((dif f g (t + 1)).toNat : Int) := by
  rw [b8_xor, b8_or]; rfl
theorem dif_eq (f g : Nat → B8) : (((dif f g 32).toNat : Int) == 0) = eq32 f g := by
  rw [Bool.eq_iff_iff, eq32_iff, ← dif_zero f g 32, beq_iff_eq]
  constructor
  · intro h; apply BitVec.eq_of_toNat_eq; simpa using h
  · intro h; rw [h]; rfl
set_option maxHeartbeats 4000000 in
theorem c_equal (f g : Nat → B8) (w : World) : Calls Tryd.prog 24 #[.agg (brow 32 f), .agg (brow 32 g)] w fun e w' => e = .returned (.bool (eq32 f g)) ∧ Below w.heap.size w w' := by
  go_enter Tryd.func24, Tryd.ntmps24
  go_wp2_with fail
  go_loopg [5, 7] 32 (fun k x i wr => ∃ t : Nat, t + k = 32 ∧ i = .int .i64 t ∧ x = .int .u8 ((dif f g t).toNat : Int) ∧ wr.heap[w.heap.size]? = some (.cells (brow 32 f) 26 (0, 0)) ∧ wr.heap[w.heap.size + 1]? = some (.cells (brow 32 g) 26 (0, 0)) ∧ Below w.heap.size w wr)
  case atStart => exact ⟨0, by omega, rfl, rfl, by (with_reducible repeat (first | assumption | (refine p1 ?_; (first | omega | (simp <;> omega))) | (refine p2 ?_ ?_; focus (first | omega | (simp <;> omega))) | refine p3 ?_ | refine p4 ?_ | apply p5 | (refine p6 ?_ ?_; focus (first | omega | (simp <;> omega))) | apply p7 | (refine p8 ?_ ?_; focus (first | omega | (simp <;> omega))) | (refine p9 (by assumption) ?_ ?_; focus (first | omega | (simp <;> omega))) | (refine p10 (by assumption) ?_ ?_; focus (first | omega | (simp <;> omega))))), by (with_reducible repeat (first | assumption | (refine p1 ?_; (first | omega | (simp <;> omega))) | (refine p2 ?_ ?_; focus (first | omega | (simp <;> omega))) | refine p3 ?_ | refine p4 ?_ | apply p5 | (refine p6 ?_ ?_; focus (first | omega | (simp <;> omega))) | apply p7 | (refine p8 ?_ ?_; focus (first | omega | (simp <;> omega))) | (refine p9 (by assumption) ?_ ?_; focus (first | omega | (simp <;> omega))) | (refine p10 (by assumption) ?_ ?_; focus (first | omega | (simp <;> omega))))), by (with_reducible repeat (first | assumption | exact Below.refl _ _ | (refine b4 ?_ ?_; focus (first | omega | (simp <;> omega))) | refine b2 ?_ | refine Below.drew ?_ | (refine b5 ?_ ?_; focus (first | omega | (simp <;> omega))) | (refine b1 ?_ ?_; focus (first | omega | (simp <;> omega))) | (refine b3 (by assumption) ?_ ?_; focus (first | omega | (simp <;> omega))) | (refine b6 (by assumption) ?_ ?_; focus (first | omega | (simp <;> omega)))))⟩
  case round =>
    obtain ⟨t, ht, rfl, rfl, g1, g2, hB⟩ := hrel
    have HT := hid ht
    have ht2 : t ≤ 32 := by omega
    clear ht
    by_cases h32 : t < 32
    · have c1 := cell_of g1 (brow_get 32 f t h32)
      have c2 := cell_of g2 (brow_get 32 g t h32)
      unfold by8 at c1 c2
      have l1 : (t : Int) < 32 := by omega
      go_wp2_with fail
      go_quiet (fail)
      go_wp2_with fail
      go_roundg (32 - (t + 1))
      case measure => have := HT.out; omega
      case rel => exact ⟨t + 1, by omega, by go_num, by rw [← dif_val], by (with_reducible repeat (first | assumption | (refine p1 ?_; (first | omega | (simp <;> omega))) | (refine p2 ?_ ?_; focus (first | omega | (simp <;> omega))) | refine p3 ?_ | refine p4 ?_ | apply p5 | (refine p6 ?_ ?_; focus (first | omega | (simp <;> omega))) | apply p7 | (refine p8 ?_ ?_; focus (first | omega | (simp <;> omega))) | (refine p9 (by assumption) ?_ ?_; focus (first | omega | (simp <;> omega))) | (refine p10 (by assumption) ?_ ?_; focus (first | omega | (simp <;> omega))))), by (with_reducible repeat (first | assumption | (refine p1 ?_; (first | omega | (simp <;> omega))) | (refine p2 ?_ ?_; focus (first | omega | (simp <;> omega))) | refine p3 ?_ | refine p4 ?_ | apply p5 | (refine p6 ?_ ?_; focus (first | omega | (simp <;> omega))) | apply p7 | (refine p8 ?_ ?_; focus (first | omega | (simp <;> omega))) | (refine p9 (by assumption) ?_ ?_; focus (first | omega | (simp <;> omega))) | (refine p10 (by assumption) ?_ ?_; focus (first | omega | (simp <;> omega))))), by (with_reducible repeat (first | assumption | exact Below.refl _ _ | (refine b4 ?_ ?_; focus (first | omega | (simp <;> omega))) | refine b2 ?_ | refine Below.drew ?_ | (refine b5 ?_ ?_; focus (first | omega | (simp <;> omega))) | (refine b1 ?_ ?_; focus (first | omega | (simp <;> omega))) | (refine b3 (by assumption) ?_ ?_; focus (first | omega | (simp <;> omega))) | (refine b6 (by assumption) ?_ ?_; focus (first | omega | (simp <;> omega)))))⟩
    · have e : t = 32 := by omega
      subst e
      go_wp2_with fail
      go_ret
      exact ⟨by rw [dif_eq]; rfl, by (with_reducible repeat (first | assumption | exact Below.refl _ _ | (refine b4 ?_ ?_; focus (first | omega | (simp <;> omega))) | refine b2 ?_ | refine Below.drew ?_ | (refine b5 ?_ ?_; focus (first | omega | (simp <;> omega))) | (refine b1 ?_ ?_; focus (first | omega | (simp <;> omega))) | (refine b3 (by assumption) ?_ ?_; focus (first | omega | (simp <;> omega))) | (refine b6 (by assumption) ?_ ?_; focus (first | omega | (simp <;> omega)))))⟩
/-- Are two lists of bytes the same? -/
def sameB (l m : Bytes8) : Bool := decide (l = m)
theorem sameB_true (l m : Bytes8) (h : l = m) : sameB l m = true := decide_eq_true h
theorem sameB_false (l m : Bytes8) (h : l ≠ m) : sameB l m = false := decide_eq_false h
theorem sameB_refl (l : Bytes8) : sameB l l = true := decide_eq_true rfl
theorem sameB_iff (l m : Bytes8) : sameB l m = true ↔ l = m := decide_eq_true_iff
attribute [irreducible] sameB
theorem list_ext (l m : Bytes8) (hl : l.length = m.length) (h : ∀ i, i < l.length → lf l i = lf m i) : l = m := by
  apply List.ext_getElem hl
  intro i h1 h2
  have := h i h1
  unfold lf at this
  rwa [List.getD_eq_getElem?_getD, List.getD_eq_getElem?_getD, List.getElem?_eq_getElem h1, List.getElem?_eq_getElem h2] at this
/-- A bool, and only draws. -/
def RetQ (b : Bool) (w : World) (e : Ending) (w' : World) : Prop := e = .returned (.bool b) ∧ ∃ n, w' = w.drewN n
set_option maxHeartbeats 4000000 in
theorem c_same (A B : Option Addr) (l m : Bytes8) (c d N : Nat) (w : World) (h1 : BSl w N A l) (h2 : BSl w N B m) (hl : l.length < 10000000000000) (hm : m.length < 10000000000000) :
    Calls Tryd.prog 25 #[.slice A l.length c, .slice B m.length d] w fun e w' => e = .returned (.bool (sameB l m)) ∧ Below w.heap.size w w' := by
  by_cases hlen : l.length = m.length
  · have t0 : ((l.length : Int) == (m.length : Int)) = true := by rw [beq_iff_eq]; omega
    obtain ⟨L, hL⟩ : ∃ L, L = l.length := ⟨_, rfl⟩
    have hM : L = m.length := by omega
    rw [← hL] at hl t0 ⊢
    rw [← hM] at t0 ⊢
    have HL := hid hL
    have HM := hid hM
    clear hL hM hlen
    go_enter Tryd.func25, Tryd.ntmps25
    go_wp2_with fail
    go_loopg [5] L (fun k i wr => ∃ t : Nat, t + k = L ∧ i = .int .i64 t ∧ Hid (∀ i, i < t → lf l i = lf m i) ∧ Below w.heap.size w wr)
    case atStart => exact ⟨0, by omega, rfl, fun i h => absurd h (by omega), by (with_reducible repeat (first | assumption | exact Below.refl _ _ | (refine b4 ?_ ?_; focus (first | omega | (simp <;> omega))) | refine b2 ?_ | refine Below.drew ?_ | (refine b5 ?_ ?_; focus (first | omega | (simp <;> omega))) | (refine b1 ?_ ?_; focus (first | omega | (simp <;> omega))) | (refine b3 (by assumption) ?_ ?_; focus (first | omega | (simp <;> omega))) | (refine b6 (by assumption) ?_ ?_; focus (first | omega | (simp <;> omega)))))⟩
    case round =>
      obtain ⟨t, ht, rfl, HE, hB⟩ := hrel
      have HT := hid ht
      have ht2 : t ≤ L := by omega
      clear ht
      by_cases htl : t < L
      · obtain ⟨b, o, rfl, hb, hc⟩ := h1 (by rw [← HL.out]; omega)
        obtain ⟨b', o', rfl, hb', hc'⟩ := h2 (by rw [← HM.out]; omega)
        have hbs : b < w.heap.size := by have := hc t (by rw [← HL.out]; omega); exact World.block_lt_of_cell? w _ this
        have hbs' : b' < w.heap.size := by have := hc' t (by rw [← HM.out]; omega); exact World.block_lt_of_cell? w _ this
        have c1 := (cell_below hB b (o + t) hbs).trans (hc t (by rw [← HL.out]; omega))
        have c2 := (cell_below hB b' (o' + t) hbs').trans (hc' t (by rw [← HM.out]; omega))
        clear hc hc'
        unfold by8 at c1 c2
        by_cases he : lf l t = lf m t
        · have t1 : (((lf l t).toNat : Int) == ((lf m t).toNat : Int)) = true := by rw [he]; exact beq_self_eq_true _
          have HEE := hid he
          clear he
          go_wp2_with fail
          go_quiet (fail)
          go_wp2_with fail
          go_roundg (L - (t + 1))
          case measure => have := HT.out; omega
          case rel =>
            refine ⟨t + 1, by omega, by go_num, fun i hi => ?_, by (with_reducible repeat (first | assumption | exact Below.refl _ _ | (refine b4 ?_ ?_; focus (first | omega | (simp <;> omega))) | refine b2 ?_ | refine Below.drew ?_ | (refine b5 ?_ ?_; focus (first | omega | (simp <;> omega))) | (refine b1 ?_ ?_; focus (first | omega | (simp <;> omega))) | (refine b3 (by assumption) ?_ ?_; focus (first | omega | (simp <;> omega))) | (refine b6 (by assumption) ?_ ?_; focus (first | omega | (simp <;> omega)))))⟩
            by_cases e : i = t
            · subst e; exact HEE.out
            · exact HE.out i (by omega)
        · have t1 : (((lf l t).toNat : Int) == ((lf m t).toNat : Int)) = false := by
            rw [beq_eq_false_iff_ne]; intro e; exact he (BitVec.eq_of_toNat_eq (by omega))
          have HEE := hid he
          clear he
          go_wp2_with fail
          go_quiet (fail)
          go_wp2_with fail
          go_ret
          exact ⟨by rw [sameB_false l m (fun e => HEE.out (by rw [e]))]; rfl, by (with_reducible repeat (first | assumption | exact Below.refl _ _ | (refine b4 ?_ ?_; focus (first | omega | (simp <;> omega))) | refine b2 ?_ | refine Below.drew ?_ | (refine b5 ?_ ?_; focus (first | omega | (simp <;> omega))) | (refine b1 ?_ ?_; focus (first | omega | (simp <;> omega))) | (refine b3 (by assumption) ?_ ?_; focus (first | omega | (simp <;> omega))) | (refine b6 (by assumption) ?_ ?_; focus (first | omega | (simp <;> omega)))))⟩
      · have e : t = L := by omega
        subst e
        go_wp2_with fail
        go_ret
        exact ⟨by rw [sameB_true l m (list_ext l m (by rw [← HL.out, ← HM.out]) (fun i hi => HE.out i (by rw [HL.out]; exact hi)))]; rfl, by (with_reducible repeat (first | assumption | exact Below.refl _ _ | (refine b4 ?_ ?_; focus (first | omega | (simp <;> omega))) | refine b2 ?_ | refine Below.drew ?_ | (refine b5 ?_ ?_; focus (first | omega | (simp <;> omega))) | (refine b1 ?_ ?_; focus (first | omega | (simp <;> omega))) | (refine b3 (by assumption) ?_ ?_; focus (first | omega | (simp <;> omega))) | (refine b6 (by assumption) ?_ ?_; focus (first | omega | (simp <;> omega)))))⟩
  · have t0 : ((l.length : Int) == (m.length : Int)) = false := by rw [beq_eq_false_iff_ne]; omega
    have HNE := hid hlen
    clear hlen
    go_enter Tryd.func25, Tryd.ntmps25
    go_wp2_with fail
    go_ret
    exact ⟨by rw [sameB_false l m (fun e => HNE.out (by rw [e]))]; rfl, by (with_reducible repeat (first | assumption | exact Below.refl _ _ | (refine b4 ?_ ?_; focus (first | omega | (simp <;> omega))) | refine b2 ?_ | refine Below.drew ?_ | (refine b5 ?_ ?_; focus (first | omega | (simp <;> omega))) | (refine b1 ?_ ?_; focus (first | omega | (simp <;> omega))) | (refine b3 (by assumption) ?_ ?_; focus (first | omega | (simp <;> omega))) | (refine b6 (by assumption) ?_ ?_; focus (first | omega | (simp <;> omega)))))⟩
/-- Bytes that a block of the call's own holds. -/
theorem bsl_block {w : World} {b : Nat} {cs : Array Value} {t : TypeId} {fr : Nat × Nat} {l : Bytes8} (h : w.heap[b]? = some (.cells cs t fr)) (hv : ∀ i, i < l.length → cs[i]? = some (by8 (lf l i))) : BSl w w.heap.size (some ⟨b, 0, none⟩) l :=
  fun _ => ⟨b, 0, rfl, lt_of h, fun i hi => by rw [Nat.zero_add]; exact cell_of h (hv i hi)⟩
theorem psl_one {w : World} {b B c : Nat} {A : Option Addr} {t : TypeId} {fr : Nat × Nat} {l : Bytes8} (h : w.heap[b]? = some (.cells #[.slice A l.length c] t fr)) (hb : b < B) (hc : l.length ≤ c) (hl : BSl w B A l) : PSl w B (some ⟨b, 0, none⟩) [l] :=
  fun _ => ⟨b, 0, rfl, hb, fun k hk => by
    obtain rfl : k = 0 := by simpa using hk
    exact ⟨A, c, cell_of h rfl, hc, hl⟩⟩
set_option maxHeartbeats 4000000 in
theorem c_awake (w : World) (hG : Glob w) : Calls Tryd.prog 14 #[] w fun e w' => e = .returned (.bool true) ∧ Below w.heap.size w w' := by
  have z26 := zero26
  have hlt := glob_lt hG
  have cv := fun (w : World) (C : Array Value) (n c : Nat) => Lib.run_convert_bytes_const (P := Tryd.prog) w 29 5 C n c Tryd.underlying29 Tryd.underlying5
  go_enter Tryd.func14, Tryd.ntmps14
  go_wp2_with fail
  refine name_calls _ (fun W hW => ?_)
  have g0 : W.heap[w.heap.size]? = some (.cells #[.int .u8 97, .int .u8 98, .int .u8 99] 5 (3, 4)) := by rw [hW]; (with_reducible repeat (first | assumption | (refine p1 ?_; (first | omega | (simp <;> omega))) | (refine p2 ?_ ?_; focus (first | omega | (simp <;> omega))) | refine p3 ?_ | refine p4 ?_ | apply p5 | (refine p6 ?_ ?_; focus (first | omega | (simp <;> omega))) | apply p7 | (refine p8 ?_ ?_; focus (first | omega | (simp <;> omega))) | (refine p9 (by assumption) ?_ ?_; focus (first | omega | (simp <;> omega))) | (refine p10 (by assumption) ?_ ?_; focus (first | omega | (simp <;> omega)))))
  have g1 : W.heap[w.heap.size + 1]? = some (.cells #[.slice (some ⟨w.heap.size, 0, none⟩) 3 3] 29 (0, 0)) := by rw [hW]; (with_reducible repeat (first | assumption | (refine p1 ?_; (first | omega | (simp <;> omega))) | (refine p2 ?_ ?_; focus (first | omega | (simp <;> omega))) | refine p3 ?_ | refine p4 ?_ | apply p5 | (refine p6 ?_ ?_; focus (first | omega | (simp <;> omega))) | apply p7 | (refine p8 ?_ ?_; focus (first | omega | (simp <;> omega))) | (refine p9 (by assumption) ?_ ?_; focus (first | omega | (simp <;> omega))) | (refine p10 (by assumption) ?_ ?_; focus (first | omega | (simp <;> omega)))))
  have hB : Below w.heap.size w W := by rw [hW]; (with_reducible repeat (first | assumption | exact Below.refl _ _ | (refine b4 ?_ ?_; focus (first | omega | (simp <;> omega))) | refine b2 ?_ | refine Below.drew ?_ | (refine b5 ?_ ?_; focus (first | omega | (simp <;> omega))) | (refine b1 ?_ ?_; focus (first | omega | (simp <;> omega))) | (refine b3 (by assumption) ?_ ?_; focus (first | omega | (simp <;> omega))) | (refine b6 (by assumption) ?_ ?_; focus (first | omega | (simp <;> omega)))))
  have hl1 := lt_of g1
  clear hW
  have hb : BSl W W.heap.size (some ⟨w.heap.size, 0, none⟩) abc := bsl_block g0 (fun i hi => by
    match i, hi with
    | 0, _ => rfl
    | 1, _ => rfl
    | 2, _ => rfl)
  have hp : PSl W W.heap.size (some ⟨w.heap.size + 1, 0, none⟩) [abc] := psl_one g1 hl1 (by show 3 ≤ 3; omega) hb
  refine (c_progSum _ [abc] 1 _ W (glob_below hG hB hlt) (Nat.le_refl _) hp (by decide) (by decide)).mono ?_
  rintro e w1 ⟨rfl, hb1⟩
  have hz1 := hb1.size
  rw [show [abc].flatten = abc from rfl]
  obtain ⟨D, hD⟩ : ∃ D, D = shaL abc := ⟨_, rfl⟩
  rw [← hD]
  have HD := hid hD
  have d0 : Hid (D 0 = 186#8) := by show D 0 = _; rw [hD]; exact abc_first
  have d31 : Hid (D 31 = 173#8) := by show D 31 = _; rw [hD]; exact abc_last
  clear hD g0 g1 hb hp cv
  have t0 : (((D 0).toNat : Int) == 186) = true := by rw [d0.out]; rfl
  have t31 : (((D 31).toNat : Int) == 173) = true := by rw [d31.out]; rfl
  go_wp2_with (first | ((with_reducible refine Arr.arm_store row26 rfl ?_); refine ⟨rfl, _, _, _, _, rfl, rfl, by (with_reducible repeat (first | assumption | (refine p1 ?_; (first | omega | (simp <;> omega))) | (refine p2 ?_ ?_; focus (first | omega | (simp <;> omega))) | refine p3 ?_ | refine p4 ?_ | apply p5 | (refine p6 ?_ ?_; focus (first | omega | (simp <;> omega))) | apply p7 | (refine p8 ?_ ?_; focus (first | omega | (simp <;> omega))) | (refine p9 (by assumption) ?_ ?_; focus (first | omega | (simp <;> omega))) | (refine p10 (by assumption) ?_ ?_; focus (first | omega | (simp <;> omega))))), by (exact brow_size _ _), by (exact brow_size _ _), by (exact brow_one _ _), ?_⟩) | ((with_reducible refine Arr.arm_load row26 rfl ?_); refine ⟨rfl, _, _, _, _, rfl, by (with_reducible repeat (first | assumption | (refine p1 ?_; (first | omega | (simp <;> omega))) | (refine p2 ?_ ?_; focus (first | omega | (simp <;> omega))) | refine p3 ?_ | refine p4 ?_ | apply p5 | (refine p6 ?_ ?_; focus (first | omega | (simp <;> omega))) | apply p7 | (refine p8 ?_ ?_; focus (first | omega | (simp <;> omega))) | (refine p9 (by assumption) ?_ ?_; focus (first | omega | (simp <;> omega))) | (refine p10 (by assumption) ?_ ?_; focus (first | omega | (simp <;> omega))))), by (exact brow_size _ _), ?_⟩; skip) | (go_at_call 24; (with_reducible refine (c_equal D D _).mono ?_); rintro e w2 ⟨rfl, hb2⟩; have hz2 := hb2.size; (try simp only [World.size_alloc, World.size_setCell, World.size_drew, setRow_size, Arr.size_drewN] at hz2)) | ((with_reducible refine Arr.arm_load1 Sha7.cell5 rfl ?_); refine ⟨rfl, _, _, _, _, _, by8 (D 0), rfl, by (with_reducible repeat (first | assumption | (refine p1 ?_; (first | omega | (simp <;> omega))) | (refine p2 ?_ ?_; focus (first | omega | (simp <;> omega))) | refine p3 ?_ | refine p4 ?_ | apply p5 | (refine p6 ?_ ?_; focus (first | omega | (simp <;> omega))) | apply p7 | (refine p8 ?_ ?_; focus (first | omega | (simp <;> omega))) | (refine p9 (by assumption) ?_ ?_; focus (first | omega | (simp <;> omega))) | (refine p10 (by assumption) ?_ ?_; focus (first | omega | (simp <;> omega))))), (by exact brow_get 32 D 0 (by omega)), ?_⟩; unfold by8; (try simp only [Act.put, Act.eval, List.setIfInBounds_toArray, List.set_cons_zero, List.set_cons_succ, Array.getD_eq_getD_getElem?, List.getElem?_toArray, List.getElem?_cons_zero, List.getElem?_cons_succ, Option.getD_some])) | ((with_reducible refine Arr.arm_load1 Sha7.cell5 rfl ?_); refine ⟨rfl, _, _, _, _, _, by8 (D 31), rfl, by (with_reducible repeat (first | assumption | (refine p1 ?_; (first | omega | (simp <;> omega))) | (refine p2 ?_ ?_; focus (first | omega | (simp <;> omega))) | refine p3 ?_ | refine p4 ?_ | apply p5 | (refine p6 ?_ ?_; focus (first | omega | (simp <;> omega))) | apply p7 | (refine p8 ?_ ?_; focus (first | omega | (simp <;> omega))) | (refine p9 (by assumption) ?_ ?_; focus (first | omega | (simp <;> omega))) | (refine p10 (by assumption) ?_ ?_; focus (first | omega | (simp <;> omega))))), (by exact brow_get 32 D 31 (by omega)), ?_⟩; unfold by8; (try simp only [Act.put, Act.eval, List.setIfInBounds_toArray, List.set_cons_zero, List.set_cons_succ, Array.getD_eq_getD_getElem?, List.getElem?_toArray, List.getElem?_cons_zero, List.getElem?_cons_succ, Option.getD_some])))
  go_ret
  exact ⟨by rw [eq32_refl]; rfl, by (with_reducible repeat (first | assumption | exact Below.refl _ _ | (refine b4 ?_ ?_; focus (first | omega | (simp <;> omega))) | refine b2 ?_ | refine Below.drew ?_ | (refine b5 ?_ ?_; focus (first | omega | (simp <;> omega))) | (refine b1 ?_ ?_; focus (first | omega | (simp <;> omega))) | (refine b3 (by assumption) ?_ ?_; focus (first | omega | (simp <;> omega))) | (refine b6 (by assumption) ?_ ?_; focus (first | omega | (simp <;> omega)))))⟩
end Go.Proofs.YtfkeaglbfembnaaDoor.Sha12
