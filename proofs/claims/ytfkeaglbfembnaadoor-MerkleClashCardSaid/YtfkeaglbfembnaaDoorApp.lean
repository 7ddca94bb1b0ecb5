/- Memory in a walk: append onto a slice of the call's own, whatever is appended. Nothing here hangs on the program. -/
import Derived.Maps.AppendAt
import Derived.Deep.AppendLies
import Derived.OwnWalk
import Derived.Test.YtfkeaglbfembnaaDoorMid
namespace Go.Proofs.YtfkeaglbfembnaaDoor.App
open Go Go.RowKit Go.Proofs.YtfkeaglbfembnaaDoor.Arr Go.Proofs.YtfkeaglbfembnaaDoor.Mid
set_option linter.unusedVariables false
set_option linter.unusedSimpArgs false
/-- What the table says of an element's type. -/
structure ElemTy (P : Program) (t e : TypeId) (size bytes : Nat) : Prop where
  slice : P.underlying t = some (.slice e)
  info : ∃ i z, P.info? e = some i ∧ i.zero = some z ∧ i.size = size ∧ i.bytes = bytes ∧ z.cells.size = size
  pos : 0 < size
theorem own_none {w w' : World} {base size n : Nat} {e : TypeId} {v : Value} {xs : List Value} (h : w.ownsRow base e size v n xs) (hb : Below w.heap.size w w') : w'.ownsRow base e size v n xs := by
  have hg : w.grownBy w' none := ⟨hb.os, hb.tape, hb.output, hb.size, fun k hk _ => hb.block k hk⟩
  refine h.kept hg ?_
  cases hv : v.ownBlock <;> simp
/-- What is owned stays owned where all but another block stays. -/
theorem own_but {w w' : World} {base size n g : Nat} {e : TypeId} {v : Value} {xs : List Value} (h : w.ownsRow base e size v n xs) (hb : w.grownBy w' (some g)) (hg : g < base) : w'.ownsRow base e size v n xs := by
  refine h.kept hb ?_
  cases hv : v.ownBlock with
  | none => exact .inl rfl
  | some k => exact .inr (fun e => by have := h.lt k hv; have := Option.some.inj e; omega)
section
variable {P : Program} (w : World)
theorem run_app {t e : TypeId} {size bytes : Nat} (hT : ElemTy P t e size bytes) (ty : TypeId) (base : Nat) (v : Value) (n : Nat) (xs : List Value) (hown : w.ownsRow base e size v n xs) (A : Option Addr) (m c : Nat) (news : List Value)
    (hl : news.length = m * size) (hsrc : 0 < m → ∃ b o, A = some ⟨b, o, none⟩ ∧ ∀ j u, news[j]? = some u → w.cell? ⟨b, o + j, none⟩ = some u) (h1 : ∀ u ∈ news, u.oneCell' = true)
    (h63 : n + m ≤ maxLen) (hbytes : (n + m) * bytes ≤ 140737488355328) (hbase : base ≤ w.heap.size) :
    ∃ v' w', (Builtin.append_ #[t, t] ty #[v, .slice A m c]).run P w = .ok v' w' ∧ w'.ownsRow base e size v' (n + m) (xs ++ news) ∧ w.grownBy w' v.ownBlock ∧ (v'.ownBlock = v.ownBlock ∨ v'.ownBlock = some w.heap.size) := by
  obtain ⟨ht, ⟨i, z, hi, hz, hs, hby, hzs⟩, hpos⟩ := hT
  cases A with
  | some ad =>
    have hc : ∀ j u, news[j]? = some u → w.cell? (ad.add j) = some u := by
      intro j u hu
      by_cases h0 : 0 < m
      · obtain ⟨b, o, he, hc⟩ := hsrc h0
        obtain rfl : ad = ⟨b, o, none⟩ := Option.some.inj he
        rw [Addr.add_mid]; exact hc j u hu
      · have hm : m = 0 := by omega
        subst hm
        have hne : news = [] := List.eq_nil_of_length_eq_zero (by simpa using hl)
        rw [hne] at hu
        simp at hu
    obtain ⟨v', w', h2, h3, h4, _, h5⟩ := run_append_own_at (P := P) w base t ty e i z size bytes ht hi hz hs hby hzs hpos v n xs hown ad m c news hl hc h1 h63 hbytes hbase
    exact ⟨v', w', h2, h3, h4, h5⟩
  | none =>
    have hm : m = 0 := by
      by_cases h0 : 0 < m
      · obtain ⟨_, _, he, _⟩ := hsrc h0; cases he
      · omega
    subst hm
    have hn : news = [] := List.eq_nil_of_length_eq_zero (by simpa using hl)
    subst hn
    have hrun : (Builtin.append_ #[t, t] ty #[v, .slice none 0 c]).run P w = .ok v w := by
      rcases hown.2 with ⟨rfl, rfl⟩ | ⟨g, cap, cur, rfl, _, _, hnc, _⟩
      · simp [Builtin.append_, run_underlying ht, sizeOf, typeInfo, hi, Builtin.lenOf, Builtin.firstCells]
      · simp [Builtin.append_, run_underlying ht, sizeOf, typeInfo, hi, Builtin.lenOf, Builtin.firstCells, hnc, storeCells]
    exact ⟨v, w, hrun, by simpa using hown, ⟨rfl, rfl, rfl, Nat.le_refl _, fun _ _ _ => rfl⟩, .inl rfl⟩
end
section
variable {P : Program}
theorem arm_app {ops : Array Oper} {Q : Exit → Act → World → Prop} {rest : List Oper} {o : Oper} {a : Act} {w : World} {t e : TypeId} {size bytes : Nat} (hT : ElemTy P t e size bytes) {s x : Operand}
    (ho : o.op = .call { callee := .builtin .append, args := #[s, x], argTypes := #[t, t] })
    (h : Region.wanted o (yielded ops a.tmps) = true ∧ ∃ base v n xs A m c news, a.eval s = v ∧ a.eval x = .slice A m c ∧ w.ownsRow base e size v n xs ∧ news.length = m * size ∧ (0 < m → ∃ b o, A = some ⟨b, o, none⟩ ∧ ∀ j u, news[j]? = some u → w.cell? ⟨b, o + j, none⟩ = some u) ∧ (∀ u ∈ news, u.oneCell' = true) ∧
      n + m ≤ maxLen ∧ (n + m) * bytes ≤ 140737488355328 ∧ base ≤ w.heap.size ∧
      ∀ v' w', w'.ownsRow base e size v' (n + m) (xs ++ news) → Below base w w' → (v'.ownBlock = v.ownBlock ∨ v'.ownBlock = some w.heap.size) → w.grownBy w' v.ownBlock → wpList P ops Q rest (a.put o.dst v') w') : wpList P ops Q (o :: rest) a w := by
  obtain ⟨hw, base, v, n, xs, A, m, c, news, hs, hx, hown, hl, hsrc, h1, h63, hbytes, hbase, h⟩ := h
  obtain ⟨v', w', hrun, h2, h3, h4⟩ := run_app (P := P) w hT o.type base v n xs hown A m c news hl hsrc h1 h63 hbytes hbase
  refine list_want hw fun _ hK => ?_
  unfold Oper.wp execOp
  simp only [ho, resolve, invoke, builtin, Sem.run_bind, Sem.run_pure, Result.andThen_ok, List.map_toArray, List.map_cons, List.map_nil, hs, hx, hrun]
  exact hK _ _ (h v' w' h2 ((Below.refl _ _).grown h3 hbase (fun k hk => (hown.lt k hk).1)) h4 h3)
end
/-- An array is built of constants. -/
theorem arm_build {P : Program} {ops : Array Oper} {Q : Exit → Act → World → Prop} {rest : List Oper} {o : Oper} {a : Act} {w : World} (ty : TypeId) (v : Value) {fs : Array (Nat × Operand)} (ho : o.op = .build ty fs)
    (hw : Region.wanted o (yielded ops a.tmps) = true) (he : (execOp a.eval o).run P w = .ok (.value v) w) (h : wpList P ops Q rest (a.put o.dst v) w) : wpList P ops Q (o :: rest) a w := by
  refine list_want hw fun _ hK => ?_
  unfold Oper.wp
  rw [he]
  exact hK _ _ h
/-- A whole array is loaded in a drawn region's still part. -/
theorem still_load {P : Program} {ops : Array Oper} {w : World} {Q : Act → Prop} {a : Act} {o : Oper} {rest : List Oper} {ty : TypeId} {n : Nat} (hr : RowTy P ty n) {x : Operand} (ho : o.op = .load ty x)
    (h : Region.wanted o (yielded ops a.tmps) = true ∧ ∃ g cs t fr, a.eval x = .pointer (some ⟨g, 0, none⟩) ∧ w.heap[g]? = some (.cells cs t fr) ∧ cs.size = n ∧ wpStill P ops w Q rest (a.put o.dst (.agg cs))) : wpStill P ops w Q (o :: rest) a := by
  obtain ⟨hw, g, cs, t, fr, hx, hg, hs, h⟩ := h
  have hl := run_row (P := P) hr hg hs
  unfold wpStill
  rw [if_pos hw]
  have he : (execOp a.eval o).run P w = .ok (.value (.agg cs)) w := by
    simp only [execOp, ho, hx, Instr.loadAt, Instr.sureAddr, Sem.run_bind, Sem.run_pure, Result.andThen_ok, hl]
  unfold Oper.still
  rw [he]
  exact ⟨rfl, h⟩
end Go.Proofs.YtfkeaglbfembnaaDoor.App
