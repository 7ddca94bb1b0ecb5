/- The proof of a text, as the program makes it. -/
import Derived.WalkKit
import Derived.StillTactics
import Derived.Outline
import Derived.Deep.DeepCutAuto
import Derived.Deep.CutBlock
import Derived.Deep.DeepMust
import Derived.Great.BuildSlice
import Derived.Test.YtfkeaglbfembnaaDoorMk16
namespace Go.Proofs.YtfkeaglbfembnaaDoor.Mk17
open Go Go.RowKit Go.Proofs.YtfkeaglbfembnaaDoor.Arr Go.Proofs.YtfkeaglbfembnaaDoor.Mid Go.Proofs.YtfkeaglbfembnaaDoor.App Go.Proofs.YtfkeaglbfembnaaDoor.Sha1 Go.Proofs.YtfkeaglbfembnaaDoor.Sha2 Go.Proofs.YtfkeaglbfembnaaDoor.Sha4 Go.Proofs.YtfkeaglbfembnaaDoor.Sha5 Go.Proofs.YtfkeaglbfembnaaDoor.Sha6 Go.Proofs.YtfkeaglbfembnaaDoor.Sha7 Go.Proofs.YtfkeaglbfembnaaDoor.Sha8 Go.Proofs.YtfkeaglbfembnaaDoor.Sha9 Go.Proofs.YtfkeaglbfembnaaDoor.Sha10 Go.Proofs.YtfkeaglbfembnaaDoor.Sha12 Go.Proofs.YtfkeaglbfembnaaDoor.Sha13 Go.Proofs.YtfkeaglbfembnaaDoor.Sha17 Go.Proofs.YtfkeaglbfembnaaDoor.Mk1 Go.Proofs.YtfkeaglbfembnaaDoor.Mk2 Go.Proofs.YtfkeaglbfembnaaDoor.Mk3 Go.Proofs.YtfkeaglbfembnaaDoor.Mk4 Go.Proofs.YtfkeaglbfembnaaDoor.Mk5 Go.Proofs.YtfkeaglbfembnaaDoor.Mk6 Go.Proofs.YtfkeaglbfembnaaDoor.Mk7 Go.Proofs.YtfkeaglbfembnaaDoor.Mk8 Go.Proofs.YtfkeaglbfembnaaDoor.Mk9 Go.Proofs.YtfkeaglbfembnaaDoor.Mk15 Go.Proofs.YtfkeaglbfembnaaDoor.Mk16
set_option maxRecDepth 100000
set_option linter.unusedVariables false
set_option linter.unusedSimpArgs false
/-- A block's cells hold L digests, one behind the other. -/
def DRow (cur : Array Value) (L : Nat) (F : Nat → Dig) : Prop := ∀ k, k < L → ∀ i, i < 32 → cur[32 * k + i]? = some (by8 (F k i))
def updF (F : Nat → Dig) (k : Nat) (d : Dig) (j : Nat) : Dig := if j = k then d else F j
theorem DRow.put {cur : Array Value} {L : Nat} {F : Nat → Dig} (h : DRow cur L F) {k : Nat} (hk : k < L) (hs : 32 * L ≤ cur.size) (d : Dig) : DRow (blit cur (k * 32) (brow 32 d).toList) L (updF F k d) := by
  intro j hj i hi
  have hl : (brow 32 d).toList.length = 32 := by rw [Array.length_toList, brow_size]
  rw [blit_get _ _ _ (by rw [hl]; omega), hl]
  unfold updF
  by_cases e : j = k
  · subst e
    rw [if_pos (by omega), if_pos rfl, Array.getElem?_toList, show 32 * j + i - j * 32 = i by omega]; exact brow_get 32 d i hi
  · rw [if_neg (by omega), if_neg e]; exact h j hj i hi
theorem OwnD.openD {w : World} {base m c : Nat} {A : Option Addr} {f : Nat → Dig} (h : OwnD w base (.slice A m c) m f) (h0 : 0 < m) :
    ∃ g cur, A = some ⟨g, 0, none⟩ ∧ base ≤ g ∧ w.heap[g]? = some (.cells cur 26 (0, 0)) ∧ m ≤ c ∧ c ≤ maxLen ∧ cur.size = c * 32 ∧ DRow cur m f := by
  rcases h.2 with ⟨e, h1⟩ | ⟨g, cap, cur, e, hb, hg, hc, hm, hs, ht⟩
  · omega
  · injection e with e1 e2 e3
    subst e3
    refine ⟨g, cur, e1, hb, hg, hc, hm, hs, fun k hk i hi => ?_⟩
    have e := digCells_get f m k i hk hi
    rw [← ht, List.getElem?_take, if_pos (by omega), Array.getElem?_toList] at e
    exact e
theorem OwnD.shutD {w : World} {base m c g : Nat} {cur : Array Value} {f : Nat → Dig} (hb : base ≤ g) (hg : w.heap[g]? = some (.cells cur 26 (0, 0))) (hc : m ≤ c) (hm : c ≤ maxLen) (hs : cur.size = c * 32) (hd : DRow cur m f) : OwnD w base (.slice (some ⟨g, 0, none⟩) m c) m f := by
  refine ⟨digCells_len f m, .inr ⟨g, c, cur, rfl, hb, hg, hc, hm, hs, ?_⟩⟩
  apply List.ext_getElem?
  intro j
  by_cases hj : j < m * 32
  · have e1 := hd (j / 32) (by omega) (j % 32) (by omega)
    have e2 := digCells_get f m (j / 32) (j % 32) (by omega) (by omega)
    rw [show 32 * (j / 32) + j % 32 = j by omega] at e1 e2
    rw [List.getElem?_take, if_pos hj, Array.getElem?_toList, e1, e2]
  · rw [List.getElem?_take, if_neg hj, List.getElem?_eq_none (by rw [digCells_len]; omega)]
theorem OwnD.congr {w : World} {base m : Nat} {v : Value} {f g : Nat → Dig} (h : OwnD w base v m f) (e : ∀ k, k < m → f k = g k) : OwnD w base v m g := by
  unfold OwnD at *; rw [← digCells_congr f g m e]; exact h
/-- The first a and the last a members have changed places. -/
def swF (f : Nat → Dig) (L a k : Nat) : Dig := if k < a ∨ L - 1 - a < k then f (L - 1 - k) else f k
theorem swF_start (f : Nat → Dig) (L k : Nat) (h : k < L) : f k = swF f L 0 k := by unfold swF; rw [if_neg (by omega)]
theorem swF_end (f : Nat → Dig) (L a k : Nat) (h : k < L) (ha : L ≤ 2 * a + 1) : swF f L a k = f (L - 1 - k) := by
  unfold swF
  by_cases h1 : k < a ∨ L - 1 - a < k
  · rw [if_pos h1]
  · rw [if_neg h1]; congr 1; omega
theorem swF_step (f : Nat → Dig) (L a k : Nat) (h : k < L) (ha : 2 * a + 1 < L) : updF (updF (swF f L a) a (f (L - 1 - a))) (L - 1 - a) (f a) k = swF f L (a + 1) k := by
  unfold updF swF
  by_cases h1 : k = L - 1 - a
  · rw [if_pos h1, if_pos (by omega)]; congr 1; omega
  · rw [if_neg h1]
    by_cases h2 : k = a
    · rw [if_pos h2, if_pos (by omega), h2]
    · rw [if_neg h2]
      by_cases h3 : k < a ∨ L - 1 - a < k
      · rw [if_pos h3, if_pos (by omega)]
      · rw [if_neg h3, if_neg (by omega)]
theorem swF_put (f : Nat → Dig) (L a Z k : Nat) (h : k < L) (hZ : a + Z + 1 = L) (ha : 2 * a + 1 < L) : updF (updF (swF f L a) a (swF f L a Z)) Z (swF f L a a) k = swF f L (a + 1) k := by
  have e1 : swF f L a Z = f (L - 1 - a) := by unfold swF; rw [if_neg (by omega), show L - 1 - a = Z by omega]
  have e2 : swF f L a a = f a := by unfold swF; rw [if_neg (by omega)]
  rw [e1, e2, show Z = L - 1 - a by omega]; exact swF_step f L a k h ha
theorem dF_rev (l : List Dig) (k : Nat) (h : k < l.length) : dF l.reverse k = dF l (l.length - 1 - k) := by
  unfold dF; rw [List.getD_eq_getElem?_getD, List.getD_eq_getElem?_getD, List.getElem?_reverse h]
theorem dF_add (l : List Dig) (d : Dig) (k : Nat) (h : k < l.length + 1) : addF (dF l) l.length d k = dF (l ++ [d]) k := by
  unfold addF
  by_cases e : k = l.length
  · subst e; rw [if_pos rfl, dF_last]
  · rw [if_neg e, dF_init _ _ _ (by omega)]
section
variable {P : Program}
theorem foldl_set : ∀ (l : List Value) (k : Nat) (acc : Array Value), ((l.zipIdx k).foldl (fun cs x => cs.setIfInBounds x.2 x.1) acc).size = acc.size ∧
    ∀ i, ((l.zipIdx k).foldl (fun cs x => cs.setIfInBounds x.2 x.1) acc)[i]? = if k ≤ i ∧ i < k + l.length ∧ i < acc.size then l[i - k]? else acc[i]?
  | [], k, acc => ⟨rfl, fun i => by rw [if_neg (by simp; omega)]; rfl⟩
  | v :: l, k, acc => by
    obtain ⟨h1, h2⟩ := foldl_set l (k + 1) (acc.setIfInBounds k v)
    rw [List.zipIdx_cons, List.foldl_cons]
    refine ⟨by rw [h1]; simp, fun i => ?_⟩
    rw [h2, Array.size_setIfInBounds, Array.getElem?_setIfInBounds, List.length_cons]
    by_cases e : k = i
    · subst e
      rw [if_neg (by omega), if_pos rfl]
      by_cases hk : k < acc.size
      · rw [if_pos hk, if_pos (by omega), Nat.sub_self]; rfl
      · rw [if_neg hk, if_neg (by omega), Array.getElem?_eq_none (by omega)]
    · rw [if_neg e]
      by_cases hc : k + 1 ≤ i ∧ i < k + 1 + l.length ∧ i < acc.size
      · rw [if_pos hc, if_pos (by omega), show i - k = (i - (k + 1)) + 1 by omega, List.getElem?_cons_succ]
      · rw [if_neg hc, if_neg (by omega)]
theorem foldl_whole (cs acc : Array Value) (h : acc.size = cs.size) : cs.zipIdx.foldl (fun a x => a.setIfInBounds x.2 x.1) acc = cs := by
  obtain ⟨h1, h2⟩ := foldl_set cs.toList 0 acc
  have e : cs.zipIdx.foldl (fun a x => a.setIfInBounds x.2 x.1) acc = (cs.toList.zipIdx 0).foldl (fun a x => a.setIfInBounds x.2 x.1) acc := by
    rw [← Array.foldl_toList, Array.toList_zipIdx]
  rw [e]
  apply Array.ext_getElem?
  intro i
  rw [h2, Array.length_toList, h]
  by_cases hi : i < cs.size
  · rw [if_pos (by omega), Array.getElem?_toList, Nat.sub_zero]
  · rw [if_neg (by omega), Array.getElem?_eq_none (by omega), Array.getElem?_eq_none (by omega)]
/-- A slice of one array, in a block of its own. -/
theorem arm_bslice1 {ops : Array Oper} {Q : Exit → Act → World → Prop} {rest : List Oper} {o : Oper} {a : Act} {w : World} {t e : TypeId} {size bytes : Nat} (hT : ElemTy P t e size bytes) (hsm : size ≤ 16777216) {x : Operand} (ho : o.op = .buildSlice t 1 #[(0, x)])
    (h : o.guard = none ∧ ∃ cs, a.eval x = .agg cs ∧ cs.size = size ∧ wpList P ops Q rest (a.put o.dst (.slice (some ⟨w.heap.size, 0, none⟩) 1 1)) (w.alloc (.cells cs e))) : wpList P ops Q (o :: rest) a w := by
  obtain ⟨hg, cs, hx, hs, h⟩ := h
  obtain ⟨ht, ⟨i, z, hi, hz, his, hib, hzs⟩, hp⟩ := hT
  refine wpList_buildSlice hg t e 1 _ ho cs i z ht hi hz (by rw [his]; omega) (by rw [his]; omega) ?_ h
  rw [Array.toList_map]
  show Instr.fill _ _ [(0, a.eval x)] = some cs
  rw [hx]
  simp only [Instr.fill, Value.cells, Nat.zero_mul, Nat.zero_add]
  rw [if_neg (by rw [his]; simp [hs])]
  rw [foldl_whole _ _ (by rw [his]; simp [hs])]
/-- A whole array out of the midst of a block is loaded in a drawn region's still part. -/
theorem still_loadm {ops : Array Oper} {w : World} {Q : Act → Prop} {a : Act} {o : Oper} {rest : List Oper} {ty : TypeId} {n : Nat} (hr : RowTy P ty n) {x : Operand} (ho : o.op = .load ty x)
    (h : Region.wanted o (yielded ops a.tmps) = true ∧ ∃ g i cs, a.eval x = .pointer (some ⟨g, i, none⟩) ∧ (∀ j v, cs[j]? = some v → w.cell? ⟨g, i + j, none⟩ = some v) ∧ cs.size = n ∧ wpStill P ops w Q rest (a.put o.dst (.agg cs))) : wpStill P ops w Q (o :: rest) a := by
  obtain ⟨hw, g, i, cs, hx, hg, hs, h⟩ := h
  obtain ⟨d, hu, hd, hi2⟩ := hr
  have hl := run_loadVar_mid (P := P) w g i ty cs.toList d (fun j v hv => hg j v (by simpa using hv)) hu (by cases d <;> simp_all [isRowD, TypeDesc.isRow]) (by rw [hi2]; simp [hs])
  rw [show cs.toList.toArray = cs by simp] at hl
  unfold wpStill
  rw [if_pos hw]
  have he : (execOp a.eval o).run P w = .ok (.value (.agg cs)) w := by
    simp only [execOp, ho, hx, Instr.loadAt, Instr.sureAddr, Sem.run_bind, Sem.run_pure, Result.andThen_ok, hl]
  unfold Oper.still
  rw [he]
  exact ⟨rfl, h⟩
end
theorem DRow.cells {w : World} {g : Nat} {cur : Array Value} {t : TypeId} {fr : Nat × Nat} {L k : Nat} {F : Nat → Dig} (h : DRow cur L F) (hk : k < L) (hg : w.heap[g]? = some (.cells cur t fr)) : ∀ j v, (brow 32 (F k))[j]? = some v → w.cell? ⟨g, k * 32 + j, none⟩ = some v := by
  intro j v hv
  have hj : j < 32 := by have := (Array.getElem?_eq_some_iff.1 hv).1; rw [brow_size] at this; exact this
  rw [brow_get 32 (F k) j hj] at hv
  rw [← hv, cell_of_row w g _ cur t fr hg, show k * 32 + j = 32 * k + j by omega]
  exact h k hk j hj
theorem wrap64s (n : Int) (h0 : -9223372036854775808 ≤ n) (h1 : n < 9223372036854775808) : IntKind.i64.wrap n = n := by
  simp only [IntKind.wrap, IntKind.bits, IntKind.signed]; simp; omega
def RetPrf (w : World) (l : List Dig) (e : Ending) (w' : World) : Prop := ∃ v, e = .returned (.tuple #[v, .int .i64 0]) ∧ OwnD w' w.heap.size v l.length (dF l) ∧ Below w.heap.size w w'
set_option maxHeartbeats 400000 in
theorem c_proof_out (i : Int) (A : Option Addr) (n cap : Nat) (w : World) (h : i < 0 ∨ (n : Int) ≤ i) : Calls Tryd.prog 32 #[.int .i64 i, .slice A n cap] w fun e w' => e = .returned (.tuple #[.slice none 0 0, .int .i64 2]) ∧ w = w' := by
  by_cases h1 : i < 0
  · have d1 : decide (i < 0) = true := decide_eq_true h1
    go_enter Tryd.func32, Tryd.ntmps32
    go_wp2_with fail
    go_ret2
    exact ⟨rfl, rfl⟩
  · have d1 : decide (i < 0) = false := decide_eq_false h1
    have d2 : decide ((n : Int) ≤ i) = true := by rw [decide_eq_true_iff]; omega
    go_enter Tryd.func32, Tryd.ntmps32
    go_wp2_with fail
    go_ret2
    exact ⟨rfl, rfl⟩
set_option maxHeartbeats 1000000 in
theorem c_proof (ps : List Bytes8) (n I cap B : Nat) (A : Option Addr) (w : World) (hn : ps.length = n) (hI : I < n) (hG : Glob w) (hc : n ≤ cap) (hn2 : n < 1000000) (hB : B ≤ w.heap.size) (h : PSl w B A ps) (hlen : ∀ j, j < n → (ps.getD j []).length < 1000000000000) :
    Calls Tryd.prog 32 #[.int .i64 I, .slice A n cap] w (RetPrf w (prfL ps I)) := by
  have hlt := glob_lt hG
  obtain ⟨b, o, rfl, hb, _⟩ := h (by omega)
  obtain ⟨P, hP⟩ : ∃ P, P = prfL ps I := ⟨_, rfl⟩
  have hPl : P.length ≤ n := by rw [hP, prfL_len n ps I hn]; exact steps_len n I
  rw [← hP]
  have HPL := hid hPl
  have HP := hid hP
  have HLEN := hid hlen
  have HN := hid hn
  clear hPl hP hlen hn
  have d1 : decide ((I : Int) < 0) = false := by rw [decide_eq_false_iff_not]; omega
  have d2 : decide ((n : Int) ≤ (I : Int)) = false := by rw [decide_eq_false_iff_not]; omega
  have d2n : decide (n ≤ I) = false := by rw [decide_eq_false_iff_not]; omega
  go_enter Tryd.func32, Tryd.ntmps32
  go_wp2_with fail
  go_loopg [0, 1, 6] n (fun N x y v wr => ∃ (J o cp : Nat) (qs : List Bytes8) (out : List Dig), x = .int .i64 J ∧ y = .slice (some ⟨b, o, none⟩) N cp ∧ Hid (qs.length = N) ∧ J < N ∧ N ≤ cp ∧ N ≤ n ∧ Hid (P = prfL qs J ++ out.reverse) ∧ OwnD wr w.heap.size v out.length (dF out) ∧ PSl w B (some ⟨b, o, none⟩) qs ∧ Hid (∀ j, j < N → (qs.getD j []).length < 1000000000000) ∧ Below w.heap.size w wr)
  case atStart => exact ⟨I, o, cap, ps, [], rfl, rfl, HN, hI, hc, Nat.le_refl _, by show _ = _; rw [HP.out]; simp, OwnD.nil _ _ _, h, HLEN, Below.refl _ _⟩
  case round =>
    clear h
    obtain ⟨J, o, cp, qs, out, rfl, rfl, HQ, hJ, hcp, hgn, HPP, hO, h, HL, hBr⟩ := hrel
    have hz := hBr.size
    obtain ⟨A1, c1, rfl, hc1, _⟩ := OwnD.form hO
    have hol : Hid (out.length ≤ n) := by
      have a := HPL.out
      have b : P.length = (prfL qs J).length + out.length := by rw [HPP.out, List.length_append, List.length_reverse]
      show _ ≤ _; omega
    by_cases h1 : gk ≤ 1
    · have d3 : decide ((1 : Int) < (gk : Int)) = false := by rw [decide_eq_false_iff_not]; omega
      have e : P = out.reverse := by
        rw [HPP.out, prfL_few qs J (by rw [HQ.out]; omega)]; rfl
      have HE := hid e
      clear e
      obtain ⟨L, hL⟩ : ∃ L, L = out.length := ⟨_, rfl⟩
      rw [← hL] at hO hc1 hol ⊢
      have HLL := hid hL
      have hLb := hol.out
      have l1 : IntKind.i64.wrap ((L : Int) - 1) = (L : Int) - 1 := wrap64s _ (by omega) (by omega)
      clear hL
      go_wp2_with fail
      go_loopg [8, 9] L (fun m x y wr => ∃ (a : Nat) (Y : Int), a + m = L ∧ x = .int .i64 (a : Int) ∧ y = .int .i64 Y ∧ Hid (Y = (L : Int) - 1 - (a : Int)) ∧ OwnD wr w.heap.size (.slice A1 L c1) L (swF (dF out) L a) ∧ Below w.heap.size w wr)
      case atStart => exact ⟨0, _, by omega, rfl, rfl, by show _ = _; omega, OwnD.congr hO (fun k hk => swF_start _ _ _ hk), hBr⟩
      case round =>
        clear hO hBr h
        obtain ⟨a, Y, ha, rfl, rfl, HY, hO, hBr⟩ := hrel
        have HA := hid ha
        have haL : a ≤ L := by omega
        have hy := HY.out
        clear ha
        by_cases hab : 2 * a + 1 < L
        · obtain ⟨Z, rfl⟩ : ∃ Z : Nat, Y = (Z : Int) := ⟨Y.toNat, by omega⟩
          have hZ : a + Z + 1 = L := by omega
          clear hy
          have HZ := hid hZ
          obtain ⟨g, cur, rfl, hg, hgr, hcc, hcm, hs, hd⟩ := OwnD.openD hO (by omega)
          have d5 : decide ((a : Int) < (Z : Int)) = true := by rw [decide_eq_true_iff]; omega
          have d5n : decide (a < Z) = true := by rw [decide_eq_true_iff]; omega
          have l4 : IntKind.i64.wrap ((a : Int) + 1) = (a : Int) + 1 := wrap64s _ (by omega) (by omega)
          have l5 : IntKind.i64.wrap ((Z : Int) - 1) = (Z : Int) - 1 := wrap64s _ (by omega) (by omega)
          have la0 : (0 : Int) ≤ (a : Int) := by omega
          have la1 : (a : Int) < (L : Int) := by omega
          have lz0 : (0 : Int) ≤ (Z : Int) := by omega
          have lz1 : (Z : Int) < (L : Int) := by omega
          have haS : a < L := by omega
          have hzS : Z < L := by omega
          have hsz : 32 * L ≤ cur.size := by omega
          have hz3 := hBr.size
          obtain ⟨X, hX⟩ : ∃ X, X = swF (dF out) L a Z := ⟨_, rfl⟩
          obtain ⟨X', hX'⟩ : ∃ X', X' = swF (dF out) L a a := ⟨_, rfl⟩
          have cX : ∀ j v, (brow 32 X)[j]? = some v → wr.drew.cell? ⟨g, Z * 32 + j, none⟩ = some v := by rw [hX]; exact DRow.cells hd hzS (p4 hgr)
          have cX' : ∀ j v, (brow 32 X')[j]? = some v → wr.drew.cell? ⟨g, a * 32 + j, none⟩ = some v := by rw [hX']; exact DRow.cells hd haS (p4 hgr)
          have CX := hid cX
          have CX' := hid cX'
          have HX := hid hX
          have HX' := hid hX'
          clear cX cX' hX hX' hZ hO
          go_upto_region 15 with fail
          refine Arr.held_begin (m := 16) (fun _ => True) (by kernel_rfl) rfl ?_
          refine Arr.held_move 0 rfl rfl rfl (by kernel_rfl) (by kernel_rfl) (by kernel_rfl) (fun _ _ _ _ h => h) (trivial) ?_
          refine Arr.held_move 1 rfl rfl rfl (by kernel_rfl) (by kernel_rfl) (by kernel_rfl) (fun _ _ _ _ h => h) (trivial) ?_
          refine Arr.held_move 2 rfl rfl rfl (by kernel_rfl) (by kernel_rfl) (by kernel_rfl) (fun _ _ _ _ h => h) (trivial) ?_
          refine Arr.held_move 3 rfl rfl rfl (by kernel_rfl) (by kernel_rfl) (by kernel_rfl) (fun _ _ _ _ h => h) (trivial) ?_
          refine Arr.held_move 4 rfl rfl rfl (by kernel_rfl) (by kernel_rfl) (by kernel_rfl) (fun _ _ _ _ h => h) (trivial) ?_
          refine Arr.held_move 5 rfl rfl rfl (by kernel_rfl) (by kernel_rfl) (by kernel_rfl) (fun _ _ _ _ h => h) (trivial) ?_
          refine Arr.held_move 8 rfl rfl rfl (by kernel_rfl) (by kernel_rfl) (by kernel_rfl) (fun _ _ _ _ h => h) (trivial) ?_
          refine Arr.held_move 9 rfl rfl rfl (by kernel_rfl) (by kernel_rfl) (by kernel_rfl) (fun _ _ _ _ h => h) (trivial) ?_
          simp only [Act.put, Act.eval, List.setIfInBounds_toArray, List.set_cons_zero, List.set_cons_succ, Array.getD_eq_getD_getElem?, List.getElem?_toArray, List.getElem?_cons_zero, List.getElem?_cons_succ, Option.getD_some]
          (refine Arr.held_pure (v := ?_) 6 rfl rfl (by kernel_rfl) (by kernel_rfl) (by kernel_rfl) (fun _ _ _ _ h => h) (trivial) ?_ ?_; rotate_left; (focus (intro w hSw; go_simp; (try with_reducible rfl))); simp only [Act.put, Act.eval, List.setIfInBounds_toArray, List.set_cons_zero, List.set_cons_succ, Array.getD_eq_getD_getElem?, List.getElem?_toArray, List.getElem?_cons_zero, List.getElem?_cons_succ, Option.getD_some])
          (refine Arr.held_pure (v := ?_) 10 rfl rfl (by kernel_rfl) (by kernel_rfl) (by kernel_rfl) (fun _ _ _ _ h => h) (trivial) ?_ ?_; rotate_left; (focus (intro w hSw; go_simp; (try with_reducible rfl))); simp only [Act.put, Act.eval, List.setIfInBounds_toArray, List.set_cons_zero, List.set_cons_succ, Array.getD_eq_getD_getElem?, List.getElem?_toArray, List.getElem?_cons_zero, List.getElem?_cons_succ, Option.getD_some])
          (try simp only [Act.put, Act.eval, List.setIfInBounds_toArray, List.set_cons_zero, List.set_cons_succ, Array.getD_eq_getD_getElem?, List.getElem?_toArray, List.getElem?_cons_zero, List.getElem?_cons_succ, Option.getD_some])
          refine Arr.held_step [7, 11] (by kernel_rfl) (by simp) ?_; refine List.forall_mem_cons.2 ⟨⟨_, rfl, ?_⟩, List.forall_mem_cons.2 ⟨⟨_, rfl, ?_⟩, fun _ h => absurd h List.not_mem_nil⟩⟩
          · go_wp2_with (((with_reducible refine Mid.arm_loadm row26 rfl ?_); refine ⟨rfl, _, _, (brow 32 X), rfl, (CX.out), by (exact brow_size _ _), ?_⟩))
            refine ⟨trivial, ?_⟩
            refine Arr.held_step [11] (by kernel_rfl) (by simp) ?_; refine List.forall_mem_cons.2 ⟨⟨_, rfl, ?_⟩, fun _ h => absurd h List.not_mem_nil⟩
            go_wp2_with (((with_reducible refine Mid.arm_loadm row26 rfl ?_); refine ⟨rfl, _, _, (brow 32 X'), rfl, (CX'.out), by (exact brow_size _ _), ?_⟩))
            refine ⟨trivial, ?_⟩
            (refine Arr.held_pure (v := ?_) 12 rfl rfl (by kernel_rfl) (by kernel_rfl) (by kernel_rfl) (fun _ _ _ _ h => h) (trivial) ?_ ?_; rotate_left; (focus (intro w hSw; go_simp; (try with_reducible rfl))); simp only [Act.put, Act.eval, List.setIfInBounds_toArray, List.set_cons_zero, List.set_cons_succ, Array.getD_eq_getD_getElem?, List.getElem?_toArray, List.getElem?_cons_zero, List.getElem?_cons_succ, Option.getD_some])
            refine Arr.held_step [13] (by kernel_rfl) (by simp) ?_; refine List.forall_mem_cons.2 ⟨⟨_, rfl, ?_⟩, fun _ h => absurd h List.not_mem_nil⟩
            go_wp2_with (((with_reducible refine Mid.arm_storem row26 rfl ?_); refine ⟨rfl, _, _, _, _, _, rfl, rfl, by (with_reducible repeat (first | assumption | (refine p1 ?_; (first | omega | (simp <;> omega))) | (refine p2 ?_ ?_; focus (first | omega | (simp <;> omega))) | refine p3 ?_ | refine p4 ?_ | apply p5 | (refine p6 ?_ ?_; focus (first | omega | (simp <;> omega))) | apply p7 | (refine p8 ?_ ?_; focus (first | omega | (simp <;> omega))) | (refine p9 (by assumption) ?_ ?_; focus (first | omega | (simp <;> omega))) | (refine p10 (by assumption) ?_ ?_; focus (first | omega | (simp <;> omega))))), by (exact brow_size _ _), by omega, by (exact brow_one _ _), ?_⟩))
            refine ⟨trivial, ?_⟩
            (refine Arr.held_pure (v := ?_) 14 rfl rfl (by kernel_rfl) (by kernel_rfl) (by kernel_rfl) (fun _ _ _ _ h => h) (trivial) ?_ ?_; rotate_left; (focus (intro w hSw; go_simp; (try with_reducible rfl))); simp only [Act.put, Act.eval, List.setIfInBounds_toArray, List.set_cons_zero, List.set_cons_succ, Array.getD_eq_getD_getElem?, List.getElem?_toArray, List.getElem?_cons_zero, List.getElem?_cons_succ, Option.getD_some])
            refine Arr.held_step [15] (by kernel_rfl) (by simp) ?_; refine List.forall_mem_cons.2 ⟨⟨_, rfl, ?_⟩, fun _ h => absurd h List.not_mem_nil⟩
            go_wp2_with (((with_reducible refine Mid.arm_storem row26 rfl ?_); refine ⟨rfl, _, _, _, _, _, rfl, rfl, by (with_reducible repeat (first | assumption | (refine p1 ?_; (first | omega | (simp <;> omega))) | (refine p2 ?_ ?_; focus (first | omega | (simp <;> omega))) | refine p3 ?_ | refine p4 ?_ | apply p5 | (refine p6 ?_ ?_; focus (first | omega | (simp <;> omega))) | apply p7 | (refine p8 ?_ ?_; focus (first | omega | (simp <;> omega))) | (refine p9 (by assumption) ?_ ?_; focus (first | omega | (simp <;> omega))) | (refine p10 (by assumption) ?_ ?_; focus (first | omega | (simp <;> omega))))), by (exact brow_size _ _), by (rw [blit_size _ _ _ (by rw [Array.length_toList, brow_size]; omega)]; omega), by (exact brow_one _ _), ?_⟩))
            refine ⟨trivial, ?_⟩
            refine wpAnyH_done (by kernel_rfl) ?_ _
            go_wp2
            go_roundg (L - (a + 1))
            case measure => have := HA.out; omega
            case rel => exact ⟨a + 1, (Z : Int) - 1, by omega, by go_num, rfl, by have := HZ.out; show _ = _; omega, OwnD.congr (OwnD.shutD hg (by (with_reducible repeat (first | assumption | (refine p1 ?_; (first | omega | (simp <;> omega))) | (refine p2 ?_ ?_; focus (first | omega | (simp <;> omega))) | refine p3 ?_ | refine p4 ?_ | apply p5 | (refine p6 ?_ ?_; focus (first | omega | (simp <;> omega))) | apply p7 | (refine p8 ?_ ?_; focus (first | omega | (simp <;> omega))) | (refine p9 (by assumption) ?_ ?_; focus (first | omega | (simp <;> omega))) | (refine p10 (by assumption) ?_ ?_; focus (first | omega | (simp <;> omega)))))) hcc hcm (by rw [blit_size _ _ _ (by rw [blit_size _ _ _ (by rw [Array.length_toList, brow_size]; omega), Array.length_toList, brow_size]; omega), blit_size _ _ _ (by rw [Array.length_toList, brow_size]; omega)]; exact hs) (DRow.put (DRow.put hd haS hsz X) hzS (by rw [blit_size _ _ _ (by rw [Array.length_toList, brow_size]; omega)]; exact hsz) X')) (fun k hk => by rw [HX.out, HX'.out]; exact swF_put _ _ _ _ _ hk HZ.out hab), by (with_reducible repeat (first | assumption | exact Below.refl _ _ | (refine b4 ?_ ?_; focus (first | omega | (simp <;> omega))) | refine b2 ?_ | refine Below.drew ?_ | (refine b5 ?_ ?_; focus (first | omega | (simp <;> omega))) | (refine b1 ?_ ?_; focus (first | omega | (simp <;> omega))) | (refine b3 (by assumption) ?_ ?_; focus (first | omega | (simp <;> omega))) | (refine b6 (by assumption) ?_ ?_; focus (first | omega | (simp <;> omega)))))⟩
          · go_wp2_with (((with_reducible refine Mid.arm_loadm row26 rfl ?_); refine ⟨rfl, _, _, (brow 32 X'), rfl, (CX'.out), by (exact brow_size _ _), ?_⟩))
            refine ⟨trivial, ?_⟩
            refine Arr.held_step [7] (by kernel_rfl) (by simp) ?_; refine List.forall_mem_cons.2 ⟨⟨_, rfl, ?_⟩, fun _ h => absurd h List.not_mem_nil⟩
            go_wp2_with (((with_reducible refine Mid.arm_loadm row26 rfl ?_); refine ⟨rfl, _, _, (brow 32 X), rfl, (CX.out), by (exact brow_size _ _), ?_⟩))
            refine ⟨trivial, ?_⟩
            (refine Arr.held_pure (v := ?_) 12 rfl rfl (by kernel_rfl) (by kernel_rfl) (by kernel_rfl) (fun _ _ _ _ h => h) (trivial) ?_ ?_; rotate_left; (focus (intro w hSw; go_simp; (try with_reducible rfl))); simp only [Act.put, Act.eval, List.setIfInBounds_toArray, List.set_cons_zero, List.set_cons_succ, Array.getD_eq_getD_getElem?, List.getElem?_toArray, List.getElem?_cons_zero, List.getElem?_cons_succ, Option.getD_some])
            refine Arr.held_step [13] (by kernel_rfl) (by simp) ?_; refine List.forall_mem_cons.2 ⟨⟨_, rfl, ?_⟩, fun _ h => absurd h List.not_mem_nil⟩
            go_wp2_with (((with_reducible refine Mid.arm_storem row26 rfl ?_); refine ⟨rfl, _, _, _, _, _, rfl, rfl, by (with_reducible repeat (first | assumption | (refine p1 ?_; (first | omega | (simp <;> omega))) | (refine p2 ?_ ?_; focus (first | omega | (simp <;> omega))) | refine p3 ?_ | refine p4 ?_ | apply p5 | (refine p6 ?_ ?_; focus (first | omega | (simp <;> omega))) | apply p7 | (refine p8 ?_ ?_; focus (first | omega | (simp <;> omega))) | (refine p9 (by assumption) ?_ ?_; focus (first | omega | (simp <;> omega))) | (refine p10 (by assumption) ?_ ?_; focus (first | omega | (simp <;> omega))))), by (exact brow_size _ _), by omega, by (exact brow_one _ _), ?_⟩))
            refine ⟨trivial, ?_⟩
            (refine Arr.held_pure (v := ?_) 14 rfl rfl (by kernel_rfl) (by kernel_rfl) (by kernel_rfl) (fun _ _ _ _ h => h) (trivial) ?_ ?_; rotate_left; (focus (intro w hSw; go_simp; (try with_reducible rfl))); simp only [Act.put, Act.eval, List.setIfInBounds_toArray, List.set_cons_zero, List.set_cons_succ, Array.getD_eq_getD_getElem?, List.getElem?_toArray, List.getElem?_cons_zero, List.getElem?_cons_succ, Option.getD_some])
            refine Arr.held_step [15] (by kernel_rfl) (by simp) ?_; refine List.forall_mem_cons.2 ⟨⟨_, rfl, ?_⟩, fun _ h => absurd h List.not_mem_nil⟩
            go_wp2_with (((with_reducible refine Mid.arm_storem row26 rfl ?_); refine ⟨rfl, _, _, _, _, _, rfl, rfl, by (with_reducible repeat (first | assumption | (refine p1 ?_; (first | omega | (simp <;> omega))) | (refine p2 ?_ ?_; focus (first | omega | (simp <;> omega))) | refine p3 ?_ | refine p4 ?_ | apply p5 | (refine p6 ?_ ?_; focus (first | omega | (simp <;> omega))) | apply p7 | (refine p8 ?_ ?_; focus (first | omega | (simp <;> omega))) | (refine p9 (by assumption) ?_ ?_; focus (first | omega | (simp <;> omega))) | (refine p10 (by assumption) ?_ ?_; focus (first | omega | (simp <;> omega))))), by (exact brow_size _ _), by (rw [blit_size _ _ _ (by rw [Array.length_toList, brow_size]; omega)]; omega), by (exact brow_one _ _), ?_⟩))
            refine ⟨trivial, ?_⟩
            refine wpAnyH_done (by kernel_rfl) ?_ _
            go_wp2
            go_roundg (L - (a + 1))
            case measure => have := HA.out; omega
            case rel => exact ⟨a + 1, (Z : Int) - 1, by omega, by go_num, rfl, by have := HZ.out; show _ = _; omega, OwnD.congr (OwnD.shutD hg (by (with_reducible repeat (first | assumption | (refine p1 ?_; (first | omega | (simp <;> omega))) | (refine p2 ?_ ?_; focus (first | omega | (simp <;> omega))) | refine p3 ?_ | refine p4 ?_ | apply p5 | (refine p6 ?_ ?_; focus (first | omega | (simp <;> omega))) | apply p7 | (refine p8 ?_ ?_; focus (first | omega | (simp <;> omega))) | (refine p9 (by assumption) ?_ ?_; focus (first | omega | (simp <;> omega))) | (refine p10 (by assumption) ?_ ?_; focus (first | omega | (simp <;> omega)))))) hcc hcm (by rw [blit_size _ _ _ (by rw [blit_size _ _ _ (by rw [Array.length_toList, brow_size]; omega), Array.length_toList, brow_size]; omega), blit_size _ _ _ (by rw [Array.length_toList, brow_size]; omega)]; exact hs) (DRow.put (DRow.put hd haS hsz X) hzS (by rw [blit_size _ _ _ (by rw [Array.length_toList, brow_size]; omega)]; exact hsz) X')) (fun k hk => by rw [HX.out, HX'.out]; exact swF_put _ _ _ _ _ hk HZ.out hab), by (with_reducible repeat (first | assumption | exact Below.refl _ _ | (refine b4 ?_ ?_; focus (first | omega | (simp <;> omega))) | refine b2 ?_ | refine Below.drew ?_ | (refine b5 ?_ ?_; focus (first | omega | (simp <;> omega))) | (refine b1 ?_ ?_; focus (first | omega | (simp <;> omega))) | (refine b3 (by assumption) ?_ ?_; focus (first | omega | (simp <;> omega))) | (refine b6 (by assumption) ?_ ?_; focus (first | omega | (simp <;> omega)))))⟩
        · have d5 : decide ((a : Int) < Y) = false := by rw [decide_eq_false_iff_not]; omega
          go_wp2_with fail
          go_ret2
          refine ⟨_, rfl, ?_, hBr⟩
          rw [HE.out, List.length_reverse, ← HLL.out]
          exact OwnD.congr hO (fun k hk => by rw [swF_end _ _ _ _ hk (by omega), dF_rev _ _ (by rw [← HLL.out]; exact hk), ← HLL.out])
    · have d3 : decide ((1 : Int) < (gk : Int)) = true := by rw [decide_eq_true_iff]; omega
      have hhl := hf_lt gk (by omega)
      have hhp := hf_pos gk
      have C50 := fun W => c_half gk (by omega) (by omega) W
      obtain ⟨K, hK⟩ : ∃ K, K = hf gk := ⟨_, rfl⟩
      rw [← hK] at hhl hhp C50
      have CH := hid C50
      have HK := hid hK
      clear C50 hK
      have hs1 := slice22h b o gk cp K (by omega)
      have hs2 := slice22l b o gk cp K (by omega) (by omega)
      by_cases hk : J < K
      · have d4 : decide ((J : Int) < (K : Int)) = true := by rw [decide_eq_true_iff]; omega
        obtain ⟨D, hD⟩ : ∃ D, D = rootL (qs.drop K) := ⟨_, rfl⟩
        have CR : Hid (∀ W : World, Below w.heap.size w W → Calls Tryd.prog 34 #[.slice (some ⟨b, o + K, none⟩) (gk - K) (cp - K)] W fun e w' => e = .returned (.agg (brow 32 D)) ∧ Below W.heap.size W w') := by
          intro W hW; rw [hD]
          refine c_root (gk - K) (qs.drop K) (some ⟨b, o + K, none⟩) (cp - K) B W (by rw [List.length_drop, HQ.out]) (glob_below hG hW hlt) (by omega) (by omega) (Nat.le_trans hB hW.size) (PSl.drop (h.below hW hB) (by rw [HQ.out]; omega)) ?_
          intro j hj
          rw [List.getD_eq_getElem?_getD, List.getElem?_drop, ← List.getD_eq_getElem?_getD]; exact HL.out (K + j) (by omega)
        have HP2 : Hid (P = prfL (qs.take K) J ++ (out ++ [D]).reverse) := by
          show _ = _
          rw [HPP.out, prfL_left qs J (by rw [HQ.out]; omega) (by rw [HQ.out, ← HK.out]; exact hk), HQ.out, ← HK.out, ← hD]; simp
        clear hD HPP
        go_wp2_with (first | (go_at_call 50; (with_reducible refine (CH.out _).mono ?_); rintro e w1 ⟨rfl, rfl⟩) | (go_at_call 34; (with_reducible refine (CR.out _ (by (with_reducible repeat (first | assumption | exact Below.refl _ _ | (refine b4 ?_ ?_; focus (first | omega | (simp <;> omega))) | refine b2 ?_ | refine Below.drew ?_ | (refine b5 ?_ ?_; focus (first | omega | (simp <;> omega))) | (refine b1 ?_ ?_; focus (first | omega | (simp <;> omega))) | (refine b3 (by assumption) ?_ ?_; focus (first | omega | (simp <;> omega))) | (refine b6 (by assumption) ?_ ?_; focus (first | omega | (simp <;> omega))))))).mono ?_); rintro e w5 ⟨rfl, hb5⟩; have hz5 := hb5.size) | ((with_reducible refine arm_bslice1 elem26 (by omega) rfl ?_); refine ⟨rfl, brow 32 D, rfl, brow_size _ _, ?_⟩) | (at_builtin; go_must (refine arm_appD elem26 rfl (d := D) (base := w.heap.size) (OwnD.alloc (OwnD.below hO hb5) _) (heap_alloc_new _ _) (by have := hol.out; omega) (by simp; omega) ?_); refine ⟨rfl, rfl, _, rfl, ?_⟩; intro v2 w2 hO2 hb2))
        go_roundg K
        case measure => omega
        case rel =>
          refine ⟨J, o, cp, qs.take K, out ++ [D], rfl, rfl, ?_, hk, by omega, by omega, HP2, ?_, PSl.take h (by rw [HQ.out]; omega), ?_, by (with_reducible repeat (first | assumption | exact Below.refl _ _ | (refine b4 ?_ ?_; focus (first | omega | (simp <;> omega))) | refine b2 ?_ | refine Below.drew ?_ | (refine b5 ?_ ?_; focus (first | omega | (simp <;> omega))) | (refine b1 ?_ ?_; focus (first | omega | (simp <;> omega))) | (refine b3 (by assumption) ?_ ?_; focus (first | omega | (simp <;> omega))) | (refine b6 (by assumption) ?_ ?_; focus (first | omega | (simp <;> omega)))))⟩
          · show _ = _; rw [List.length_take, HQ.out]; omega
          · rw [List.length_append, List.length_singleton]; exact OwnD.congr hO2 (fun k hk => dF_add out D k hk)
          · intro j hj; rw [List.getD_eq_getElem?_getD, List.getElem?_take, if_pos hj, ← List.getD_eq_getElem?_getD]; exact HL.out j (by omega)
      · have d4 : decide ((J : Int) < (K : Int)) = false := by rw [decide_eq_false_iff_not]; omega
        have l2 : IntKind.i64.wrap ((J : Int) - (K : Int)) = (J : Int) - (K : Int) := wrap64 _ (by omega) (by omega)
        obtain ⟨D, hD⟩ : ∃ D, D = rootL (qs.take K) := ⟨_, rfl⟩
        have CR : Hid (∀ W : World, Below w.heap.size w W → Calls Tryd.prog 34 #[.slice (some ⟨b, o, none⟩) K cp] W fun e w' => e = .returned (.agg (brow 32 D)) ∧ Below W.heap.size W w') := by
          intro W hW; rw [hD]
          refine c_root K (qs.take K) (some ⟨b, o, none⟩) cp B W (by rw [List.length_take, HQ.out]; omega) (glob_below hG hW hlt) (by omega) (by omega) (Nat.le_trans hB hW.size) (PSl.take (h.below hW hB) (by rw [HQ.out]; omega)) ?_
          intro j hj
          rw [List.getD_eq_getElem?_getD, List.getElem?_take, if_pos hj, ← List.getD_eq_getElem?_getD]; exact HL.out j (by omega)
        have HP2 : Hid (P = prfL (qs.drop K) (J - K) ++ (out ++ [D]).reverse) := by
          show _ = _
          rw [HPP.out, prfL_right qs J (by rw [HQ.out]; omega) (by rw [HQ.out, ← HK.out]; exact hk), HQ.out, ← HK.out, ← hD]; simp
        clear hD HPP
        go_wp2_with (first | (go_at_call 50; (with_reducible refine (CH.out _).mono ?_); rintro e w1 ⟨rfl, rfl⟩) | (go_at_call 34; (with_reducible refine (CR.out _ (by (with_reducible repeat (first | assumption | exact Below.refl _ _ | (refine b4 ?_ ?_; focus (first | omega | (simp <;> omega))) | refine b2 ?_ | refine Below.drew ?_ | (refine b5 ?_ ?_; focus (first | omega | (simp <;> omega))) | (refine b1 ?_ ?_; focus (first | omega | (simp <;> omega))) | (refine b3 (by assumption) ?_ ?_; focus (first | omega | (simp <;> omega))) | (refine b6 (by assumption) ?_ ?_; focus (first | omega | (simp <;> omega))))))).mono ?_); rintro e w5 ⟨rfl, hb5⟩; have hz5 := hb5.size) | ((with_reducible refine arm_bslice1 elem26 (by omega) rfl ?_); refine ⟨rfl, brow 32 D, rfl, brow_size _ _, ?_⟩) | (at_builtin; go_must (refine arm_appD elem26 rfl (d := D) (base := w.heap.size) (OwnD.alloc (OwnD.below hO hb5) _) (heap_alloc_new _ _) (by have := hol.out; omega) (by simp; omega) ?_); refine ⟨rfl, rfl, _, rfl, ?_⟩; intro v2 w2 hO2 hb2))
        go_roundg (gk - K)
        case measure => omega
        case rel =>
          refine ⟨J - K, o + K, cp - K, qs.drop K, out ++ [D], by rw [show ((J - K : Nat) : Int) = (J : Int) - (K : Int) by omega], rfl, ?_, by omega, by omega, by omega, HP2, ?_, PSl.drop h (by rw [HQ.out]; omega), ?_, by (with_reducible repeat (first | assumption | exact Below.refl _ _ | (refine b4 ?_ ?_; focus (first | omega | (simp <;> omega))) | refine b2 ?_ | refine Below.drew ?_ | (refine b5 ?_ ?_; focus (first | omega | (simp <;> omega))) | (refine b1 ?_ ?_; focus (first | omega | (simp <;> omega))) | (refine b3 (by assumption) ?_ ?_; focus (first | omega | (simp <;> omega))) | (refine b6 (by assumption) ?_ ?_; focus (first | omega | (simp <;> omega)))))⟩
          · show _ = _; rw [List.length_drop, HQ.out]
          · rw [List.length_append, List.length_singleton]; exact OwnD.congr hO2 (fun k hk => dF_add out D k hk)
          · intro j hj; rw [List.getD_eq_getElem?_getD, List.getElem?_drop, ← List.getD_eq_getElem?_getD]; exact HL.out (K + j) (by omega)
end Go.Proofs.YtfkeaglbfembnaaDoor.Mk17
