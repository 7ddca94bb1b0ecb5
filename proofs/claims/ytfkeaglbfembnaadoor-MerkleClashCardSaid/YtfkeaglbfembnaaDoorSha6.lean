/- SHA-256: Write: the hash of the bytes so far becomes the hash of those and the new ones; nothing else that was there is changed. -/
import Derived.WalkKit
import Derived.StillTactics
import Derived.Outline
import Derived.Test.YtfkeaglbfembnaaDoorSha5
namespace Go.Proofs.YtfkeaglbfembnaaDoor.Sha6
open Go Go.RowKit Go.Proofs.YtfkeaglbfembnaaDoor.Arr Go.Proofs.YtfkeaglbfembnaaDoor.Mid Go.Proofs.YtfkeaglbfembnaaDoor.Sha1 Go.Proofs.YtfkeaglbfembnaaDoor.Sha2 Go.Proofs.YtfkeaglbfembnaaDoor.Sha4 Go.Proofs.YtfkeaglbfembnaaDoor.Sha5
set_option maxRecDepth 100000
set_option linter.unusedVariables false
set_option linter.unusedSimpArgs false
section
variable {P : Program}
/-- copy into the bytes that wait. -/
theorem arm_rest {ops : Array Oper} {Q : Exit → Act → World → Prop} {rest : List Oper} {o : Oper} {a : Act} {w : World} (hgd : o.guard = none) {d s : Operand} {dT sT : TypeId}
    (ho : o.op = .call { callee := .builtin .copy, args := #[d, s], argTypes := #[dT, sT] }) {elem : TypeId} (hu : P.underlying dT = some (.slice elem)) (hsz : (P.info? elem).map (·.size) = some 1)
    {H R n bg} {g at' k l c : Nat} {S : Nat → B8} {b off : Nat} (hg : w.heap[g]? = some (.cells (hc H R n bg) 38 (0, 0))) (hk : k = min l (64 - at')) (hat : at' < 64) (hl : 0 < l)
    (hsrc : ∀ i, i < l → w.cell? ⟨b, off + i, none⟩ = some (by8 (S i)))
    (hd : a.eval d = .slice (some ⟨g, 8 + at', none⟩) (64 - at') (64 - at')) (hs : a.eval s = .slice (some ⟨b, off, none⟩) l c)
    (h : ∀ w2, w2.heap[g]? = some (.cells (hc H (fun i => if at' ≤ i ∧ i < at' + k then S (i - at') else R i) n bg) 38 (0, 0)) → w.grownBy w2 (some g) → wpList P ops Q rest (a.put o.dst (.int .i64 (k : Int))) w2) : wpList P ops Q (o :: rest) a w := by
  have hlen : ((List.range k).map fun i => by8 (S i)).length = k := by simp
  refine arm_copy hgd ho hu hsz ⟨_, _, g, 8 + at', _, _, _, _, _, 38, (List.range k).map fun i => by8 (S i), hd, hs, hg, ?_, ?_, ?_, ?_, ?_⟩
  · rw [hlen, hk]
  · intro _
    refine ⟨rfl, _, rfl, fun j v hv => ?_⟩
    have hj : j < k := by have := (List.getElem?_eq_some_iff.1 hv).1; rwa [hlen] at this
    simp [List.getElem?_range, hj] at hv
    rw [Addr.add_mid, ← hv]; exact hsrc j (by omega)
  · rw [hlen, hc_size]; omega
  · intro v hv; simp at hv; obtain ⟨_, _, rfl⟩ := hv; rfl
  · rw [blit_hc _ _ _ _ _ _ _ (by omega), hlen]
    exact h _ (hp_setRow_eq hg) (gb1 (.inl rfl) gbr)
end
theorem cell36 : CellTy Tryd.prog 36 := ⟨_, Tryd.underlying36, rfl, by kernel_rfl⟩
theorem cell4' : CellTy Tryd.prog 4 := ⟨_, Tryd.underlying4, rfl, by kernel_rfl⟩
theorem size5 : (Tryd.prog.info? 5).map (·.size) = some 1 := by kernel_rfl
theorem slice64 (g o a : Nat) (ha : a < 64) (w : World) : (Instr.sliceAt 35 (.pointer (some ⟨g, o, none⟩)) (some (.int .i64 (a : Int))) none none).run Tryd.prog w = .ok (.slice (some ⟨g, o + a, none⟩) (64 - a) (64 - a)) w := by
  have hl : Tryd.prog.arrayLen 35 = 64 := by kernel_rfl
  have he : Tryd.prog.elem 35 = 5 := by kernel_rfl
  have hu : Tryd.prog.underlying 35 = some (.array (Tryd.prog.arrayLen 35) (Tryd.prog.elem 35)) := by rw [hl, he]; exact Tryd.underlying35
  rw [run_sliceAt_array_l w 35 ⟨g, o, none⟩ hu .i64 (a : Int) (by omega) (by rw [hl]; omega), he, hl]
  have hs : (sizeOf 5).run Tryd.prog w = .ok 1 w := by
    cases hq : Tryd.prog.info? 5 with
    | none => have := size5; simp [hq] at this
    | some i => have := size5; simp [hq] at this; simp [sizeOf, typeInfo, hq, this]
  rw [hs]
  simp only [Result.andThen_ok, slicedAt, Int.toNat_natCast, Nat.mul_one]
  rw [if_neg (by omega), Addr.add_mid]
theorem slice29 (b o l c k : Nat) (hk : k ≤ l) (hl : l ≤ c) (w : World) : (Instr.slice 29 (.slice (some ⟨b, o, none⟩) l c) (some (.int .i64 (k : Int))) none none).run Tryd.prog w = .ok (.slice (if c = k then some ⟨b, o, none⟩ else some ⟨b, o + k, none⟩) (l - k) (c - k)) w := by
  have he : Tryd.prog.elem 29 = 5 := by kernel_rfl
  have hu : Tryd.prog.underlying 29 = some (.slice (Tryd.prog.elem 29)) := by rw [he]; exact Tryd.underlying29
  have hs : (sizeOf 5).run Tryd.prog w = .ok 1 w := by
    cases hq : Tryd.prog.info? 5 with
    | none => have := size5; simp [hq] at this
    | some i => have := size5; simp [hq] at this; simp [sizeOf, typeInfo, hq, this]
  rw [run_slice_l w 29 (some ⟨b, o, none⟩) l c hu .i64 (k : Int) (by omega) (by omega), he, hs]
  simp only [Result.andThen_ok, sliced, Int.toNat_natCast, Nat.mul_one, Option.map_some, Addr.add_mid]
/-- One round's end: not full ¦ full. -/
theorem hs_some {w : World} {g : Nat} {M : Nat → B8} {p a q k : Nat} {R : Nat → B8} (hq : p = 64 * q + a) (ha : a + k < 64) (hR : ∀ i, i < a → R i = M (64 * q + i))
    (hg : w.heap[g]? = some (.cells (hc (stm M q) (fun i => if a ≤ i ∧ i < a + k then M (p + (i - a)) else R i) (p + k) true) 38 (0, 0))) : Hs w g M (p + k) := by
  have e1 : (p + k) / 64 = q := by omega
  have e2 : (p + k) % 64 = a + k := by omega
  refine ⟨_, fun i hi => ?_, by rw [e1]; exact hg⟩
  rw [e2] at hi; rw [e1]
  show (if a ≤ i ∧ i < a + k then M (p + (i - a)) else R i) = _
  by_cases h : a ≤ i
  · rw [if_pos ⟨h, hi⟩]; congr 1; omega
  · rw [if_neg (by omega), hR i (by omega)]
theorem hs_full {w : World} {g : Nat} {M : Nat → B8} {p a q k : Nat} {S : Nat → B8} (hq : p = 64 * q + a) (ha : a + k = 64)
    (hg : w.heap[g]? = some (.cells (hc (blockf K0 (stm M q) fun i => M (64 * q + i)) S (p + k) true) 38 (0, 0))) : Hs w g M (p + k) := by
  have e1 : (p + k) / 64 = q + 1 := by omega
  have e2 : (p + k) % 64 = 0 := by omega
  exact ⟨S, fun i hi => by omega, by rw [e1]; exact hg⟩
theorem src_next {w : World} {g b o l c k p : Nat} {A2 : Option Addr} {M : Nat → B8} (hA : A2 = if c = k then some (⟨b, o, none⟩ : Addr) else some ⟨b, o + k, none⟩) (hl : l ≤ c) (hbg : b ≠ g) (hb : b < w.heap.size)
    (hcell : ∀ i, i < l → w.cell? ⟨b, o + i, none⟩ = some (by8 (M (p + i)))) : Src w g A2 (l - k) fun i => M (p + k + i) := by
  intro h
  rw [if_neg (by omega)] at hA
  refine ⟨b, o + k, hA, hbg, hb, fun i hi => ?_⟩
  show _ = some (by8 (M (p + k + i)))
  rw [Nat.add_assoc, Nat.add_assoc]; exact hcell (k + i) (by omega)
set_option maxHeartbeats 8000000 in
theorem c_write (g : Nat) (M : Nat → B8) (n m cap : Nat) (A : Option Addr) (w : World) (hG : Glob w) (hg : 1 < g) (h : Hst w g M n) (hb : Src w g A m fun i => M (n + i)) (hm : m ≤ cap) (hn : n + m < 1000000000000000) :
    Calls Tryd.prog 20 #[.pointer (some ⟨g, 0, none⟩), .slice A m cap] w fun e w' => e = .returned (.tuple #[]) ∧ Hs w' g M (n + m) ∧ w.grownBy w' (some g) := by
  have hlt := glob_lt hG
  have hlg : g < w.heap.size := by rcases h with ⟨R, _, h⟩ | ⟨_, h⟩ <;> exact lt_of h
  rcases h with ⟨R, hR, hgw⟩ | ⟨hn0, hf⟩
  have b1 := cell_of hgw (hc_begun _ _ _ _)
  go_enter Tryd.func20, Tryd.ntmps20
  go_wp2_with fail
  refine Arr.name_world _ (fun W hW => ?_)
  have hS : Hs W g M n := by rw [hW]; exact ⟨R, hR, hgw⟩
  have hB : w.grownBy W (some g) := by rw [hW]; exact gbr
  clear hW b1 hgw hR R
  rotate_left
  have HN0 := hid hn0
  clear hn0
  unfold Fresh at hf
  have b1 := cell_of hf (hc_begun _ _ _ _)
  go_enter Tryd.func20, Tryd.ntmps20
  go_wp2_with (first | ((with_reducible refine Mid.arm_loadm row34 rfl ?_); refine ⟨rfl, _, _, words 8 H0, rfl, (fun j v hv => by have hj : j < 8 := by { have := (Array.getElem?_eq_some_iff.1 hv).1; rwa [words_size] at this }; rw [words_get 8 H0 j hj] at hv; rw [Nat.zero_add, ← hv]; exact hG.1 j hj), by (exact words_size _ _), ?_⟩) | ((with_reducible refine Mid.arm_storem row34 rfl ?_); refine ⟨rfl, _, _, _, _, _, rfl, rfl, by (with_reducible repeat (first | assumption | (refine p1 ?_; (first | omega | (simp <;> omega))) | (refine p2 ?_ ?_; focus (first | omega | (simp <;> omega))) | refine p3 ?_ | refine p4 ?_ | apply p5 | (refine p6 ?_ ?_; focus (first | omega | (simp <;> omega))) | apply p7 | (refine p8 ?_ ?_; focus (first | omega | (simp <;> omega))) | (refine p9 (by assumption) ?_ ?_; focus (first | omega | (simp <;> omega))) | (refine p10 (by assumption) ?_ ?_; focus (first | omega | (simp <;> omega))))), by (exact words_size _ _), by (rw [hc_size]; omega), by (exact words_one _ _), ?_⟩) | ((with_reducible refine Arr.arm_store1 cell4' rfl ?_); refine ⟨rfl, _, _, _, _, _, rfl, rfl, by (with_reducible repeat (first | assumption | (refine p1 ?_; (first | omega | (simp <;> omega))) | (refine p2 ?_ ?_; focus (first | omega | (simp <;> omega))) | refine p3 ?_ | refine p4 ?_ | apply p5 | (refine p6 ?_ ?_; focus (first | omega | (simp <;> omega))) | apply p7 | (refine p8 ?_ ?_; focus (first | omega | (simp <;> omega))) | (refine p9 (by assumption) ?_ ?_; focus (first | omega | (simp <;> omega))) | (refine p10 (by assumption) ?_ ?_; focus (first | omega | (simp <;> omega))))), by (first | (rw [hc_size]; omega) | (rw [blit_size] <;> simp [hc_size, words_size]; done)), rfl, ?_⟩; (try simp only [Act.put, Act.eval, List.setIfInBounds_toArray, List.set_cons_zero, List.set_cons_succ, Array.getD_eq_getD_getElem?, List.getElem?_toArray, List.getElem?_cons_zero, List.getElem?_cons_succ, Option.getD_some])))
  refine Arr.name_world _ (fun W hW => ?_)
  have hS : Hs W g M n := by
    have hn0 : n = 0 := HN0.out
    subst hn0
    rw [hW]
    refine ⟨fun _ => 0#8, fun i hi => by omega, ?_⟩
    have e := hp_setCell_eq (i := 73) (v := .bool true) (hp_setRow_eq (cs := blit (hc (fun _ => 0#32) (fun _ => 0#8) 0 false) 0 (words 8 H0).toList) hf)
    rw [blit_words, hc_setBegun] at e
    rw [blit_words]
    exact e
  have hB : w.grownBy W (some g) := by rw [hW]; exact gb5 (.inl rfl) (gb1 (.inl rfl) gbr)
  clear hW b1 hf HN0
  all_goals
    go_loopw [1] (fun v wr => ∃ (p l c : Nat) (A' : Option Addr), p + l = n + m ∧ l ≤ c ∧ v = .slice A' l c ∧ Src w g A' l (fun i => M (p + i)) ∧ Hs wr g M p ∧ w.grownBy wr (some g)) (fun v _ => match v with | .slice _ l _ => l | _ => 0)
    case atStart => exact ⟨_, m, cap, A, rfl, hm, rfl, hb, hS, hB⟩
    case round =>
      clear hS hB hb
      obtain ⟨p, l, c, A', hpl, hlc, rfl, hsrc, hS, hB⟩ := hrel
      have hp : p < 1000000000000000 := by omega
      have HPL := hid hpl
      clear hpl
      by_cases hl : 0 < l
      · obtain ⟨b, o, rfl, hbg, hbw, hcell⟩ := hsrc hl
        obtain ⟨R, hR, hgw⟩ := hS
        obtain ⟨a, ha⟩ : ∃ a, a = p % 64 := ⟨_, rfl⟩
        obtain ⟨q, hq⟩ : ∃ q, q = p / 64 := ⟨_, rfl⟩
        rw [← ha, ← hq] at hR
        rw [← hq] at hgw
        have a64 : a < 64 := by omega
        have am : (p : Int) % 64 = (a : Int) := by omega
        have HPQ : Hid (p = 64 * q + a) := by show p = 64 * q + a; omega
        clear ha hq
        obtain ⟨k, hk⟩ : ∃ k, k = min l (64 - a) := ⟨_, rfl⟩
        have k1 : 0 < k := by omega
        have k2 : k ≤ l := by omega
        have k3 : a + k ≤ 64 := by omega
        have HK := hid hk
        have kfull : a + k = 64 ∨ (a + k < 64 ∧ k = l) := by omega
        clear hk
        have c1 := cell_of hgw (hc_n _ _ _ _)
        have hsrc2 : ∀ i, i < l → wr.cell? ⟨b, o + i, none⟩ = some (by8 (M (p + i))) := fun i hi => (cell_but hB b _ hbw hbg).trans (hcell i hi)
        have HS2 := hid hsrc2
        have HC := hid hcell
        clear hsrc2 hcell
        have hsl := slice64 g 8 a a64
        obtain ⟨A2, hA2⟩ : ∃ A2, A2 = if c = k then some (⟨b, o, none⟩ : Addr) else some ⟨b, o + k, none⟩ := ⟨_, rfl⟩
        have hs2 := slice29 b o l c k k2 hlc
        rw [← hA2] at hs2
        have HA2 := hid hA2
        clear hA2
        rcases kfull with hf | ⟨hf, hkl⟩
        · have tf : ((a : Int) + (k : Int) == 64) = true := by rw [beq_iff_eq]; omega
          go_wp2_with ((with_reducible refine arm_rest rfl rfl Tryd.underlying29 size5 hgw HK.out a64 hl HS2.out rfl rfl ?_); intro w2 g2 b2; have c2 := cell_of g2 (hc_n _ _ _ _); have f2 := fz_of (i := 72) g2)
          have g3 : (w2.setCell ⟨g, 72, none⟩ (.int .u64 ((p : Int) + (k : Int)))).heap[g]? = some (.cells (hc (stm M q) (fun i => if a ≤ i ∧ i < a + k then M (p + (i - a)) else R i) (p + k) true) 38 (0, 0)) := by
            have e := hp_setCell_eq (i := 72) (v := .int .u64 ((p : Int) + (k : Int))) g2
            rw [show Value.int .u64 ((p : Int) + (k : Int)) = .int .u64 ((p + k : Nat) : Int) by rw [Int.natCast_add], hc_setN] at e
            rw [Int.natCast_add] at e
            exact e
          have GB3 : w.grownBy (w2.setCell ⟨g, 72, none⟩ (.int .u64 ((p : Int) + (k : Int)))) (some g) := by (with_reducible repeat (first | assumption | exact gbr | refine gb4 ?_ | refine gb2 ?_ | refine gb3 ?_ | (refine gb5 ?_ ?_; focus (first | omega | (simp <;> omega))) | (refine gb1 ?_ ?_; focus (first | omega | (simp <;> omega))) | (refine gb8 (by assumption) ?_) | (refine gb6 (by assumption) ?_ ?_; focus (first | omega | (simp <;> omega))) | (refine gb7 (by assumption) ?_ ?_; focus (first | omega | (simp <;> omega))) | (refine gb0 ?_; focus ((with_reducible repeat (first | assumption | exact Below.refl _ _ | (refine b4 ?_ ?_; focus (first | omega | (simp <;> omega))) | refine b2 ?_ | refine Below.drew ?_ | (refine b5 ?_ ?_; focus (first | omega | (simp <;> omega))) | (refine b1 ?_ ?_; focus (first | omega | (simp <;> omega))) | (refine b3 (by assumption) ?_ ?_; focus (first | omega | (simp <;> omega))) | (refine b6 (by assumption) ?_ ?_; focus (first | omega | (simp <;> omega))))); done))))
          have hBy : Bytes (w2.setCell ⟨g, 72, none⟩ (.int .u64 ((p : Int) + (k : Int)))) g 8 64 (fun i => M (64 * q + i)) := by
            intro i hi
            rw [cell_of g3 (hc_rest _ _ _ _ i hi)]
            have hpq := HPQ.out
            by_cases hia : a ≤ i
            · rw [if_pos ⟨hia, by omega⟩]; rw [show p + (i - a) = 64 * q + i by omega]
            · rw [if_neg (by omega), hR i (by omega)]
          have hGl := glob_but hG GB3 hg
          refine (c_block _ _ _ _ K0 g g 8 64 (fun i => M (64 * q + i)) _ g3 (lt_of g3) hBy hGl.2 (glob_lt hGl) hg).mono ?_
          rintro e w4 ⟨rfl, g4, b4⟩
          have HPQ2 := HPQ.out
          have hS4 := hs_full HPQ2 hf g4
          have hB4 : w.grownBy w4 (some g) := gb7 b4 (.inl rfl) GB3
          clear HPQ2 hBy hGl g3 GB3 g4 b4 g2 b2 c2 f2 c1 hsl hs2
          go_wp2_with fail
          go_round
          case rel => exact ⟨p + k, l - k, c - k, A2, by have := HPL.out; omega, by omega, rfl, src_next HA2.out hlc hbg hbw HC.out, hS4, hB4⟩
          case measure => simp; omega
        · have tf : ((a : Int) + (k : Int) == 64) = false := by rw [beq_eq_false_iff_ne]; omega
          have HKL := hid hkl
          clear hkl
          go_wp2_with ((with_reducible refine arm_rest rfl rfl Tryd.underlying29 size5 hgw HK.out a64 hl HS2.out rfl rfl ?_); intro w2 g2 b2; have c2 := cell_of g2 (hc_n _ _ _ _); have f2 := fz_of (i := 72) g2)
          go_round
          case rel =>
            refine ⟨p + k, l - k, c - k, A2, by have := HPL.out; omega, by omega, rfl, src_next HA2.out hlc hbg hbw HC.out, hs_some HPQ.out hf hR ?_, by (with_reducible repeat (first | assumption | exact gbr | refine gb4 ?_ | refine gb2 ?_ | refine gb3 ?_ | (refine gb5 ?_ ?_; focus (first | omega | (simp <;> omega))) | (refine gb1 ?_ ?_; focus (first | omega | (simp <;> omega))) | (refine gb8 (by assumption) ?_) | (refine gb6 (by assumption) ?_ ?_; focus (first | omega | (simp <;> omega))) | (refine gb7 (by assumption) ?_ ?_; focus (first | omega | (simp <;> omega))) | (refine gb0 ?_; focus ((with_reducible repeat (first | assumption | exact Below.refl _ _ | (refine b4 ?_ ?_; focus (first | omega | (simp <;> omega))) | refine b2 ?_ | refine Below.drew ?_ | (refine b5 ?_ ?_; focus (first | omega | (simp <;> omega))) | (refine b1 ?_ ?_; focus (first | omega | (simp <;> omega))) | (refine b3 (by assumption) ?_ ?_; focus (first | omega | (simp <;> omega))) | (refine b6 (by assumption) ?_ ?_; focus (first | omega | (simp <;> omega))))); done))))⟩
            have e := hp_setCell_eq (i := 72) (v := .int .u64 ((p : Int) + (k : Int))) g2
            rw [show Value.int .u64 ((p : Int) + (k : Int)) = .int .u64 ((p + k : Nat) : Int) by rw [Int.natCast_add], hc_setN] at e
            rw [Int.natCast_add] at e
            exact e
          case measure => simp; omega
      · have e0 : l = 0 := by omega
        subst e0
        have hpm : p = n + m := by have := HPL.out; omega
        rw [hpm] at hS
        clear hpm HPL
        go_wp2_with fail
        go_end0
        exact ⟨rfl, hS, hB⟩
end Go.Proofs.YtfkeaglbfembnaaDoor.Sha6
