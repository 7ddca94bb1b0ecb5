/- A region that draws its order: guarded operations taken first. Nothing here hangs on the program. -/
import Derived.Test.YtfkeaglbfembnaaDoorArr
namespace Go.Proofs.YtfkeaglbfembnaaDoor.Held
open Go Go.RowKit Go.Proofs.YtfkeaglbfembnaaDoor.Arr
set_option linter.unusedVariables false
section
variable {P : Program}
theorem moveg {l : List Oper} {Q : Exit → Act → World → Prop} {S : World → Prop} {fuel : Nat} {listed : Array Bool} {a : Act} {w : World} (i : Nat) {oi : Oper} {x : Operand} (hi : l[i]? = some oi) (ho : oi.op = .move x) (hw : Region.wanted oi (yielded l.toArray a.tmps) = true)
    (hs : Region.noSelect l.toArray = true) (hf : Region.free .any l.toArray listed i = true) (hr : (Region.ready .any l.toArray listed).contains i = true)
    (hQ' : ∀ c a v w, Q (.panic c) (a.put oi.dst v) w → Q (.panic c) a w) (hS : S w)
    (h : wpAnyH P .any l.toArray Q S fuel (listed.setIfInBounds i true) (a.put oi.dst (a.eval x)) w) : wpAnyH P .any l.toArray Q S (fuel + 1) listed a w :=
  wpAnyH_take (by simpa using hi) hs hf hr (fun c a' w' q => hQ' c a' _ w' q) (.inl ⟨hw, fun w' _ => by simp [execOp, ho, Sem.run_pure]⟩) hS h
theorem loadg {l : List Oper} {Q : Exit → Act → World → Prop} {S : World → Prop} {fuel : Nat} {listed : Array Bool} {a : Act} {w : World} (i : Nat) {oi : Oper} {ty : TypeId} {n : Nat} (hrt : RowTy P ty n) {x : Operand} (hi : l[i]? = some oi) (ho : oi.op = .load ty x) (hw : Region.wanted oi (yielded l.toArray a.tmps) = true)
    (hs : Region.noSelect l.toArray = true) (hf : Region.free .any l.toArray listed i = true) (hr : (Region.ready .any l.toArray listed).contains i = true)
    (hQ' : ∀ c a v w, Q (.panic c) (a.put oi.dst v) w → Q (.panic c) a w) (hS : S w)
    (h : ∃ g cs, a.eval x = .pointer (some ⟨g, 0, none⟩) ∧ (∀ w, S w → ∃ t fr, w.heap[g]? = some (.cells cs t fr)) ∧ cs.size = n ∧ wpAnyH P .any l.toArray Q S fuel (listed.setIfInBounds i true) (a.put oi.dst (.agg cs)) w) : wpAnyH P .any l.toArray Q S (fuel + 1) listed a w := by
  obtain ⟨g, cs, hx, hc, hn, h⟩ := h
  refine wpAnyH_take (by simpa using hi) hs hf hr (fun c a' w' q => hQ' c a' _ w' q) (.inl ⟨hw, fun w' hS' => ?_⟩) hS h
  obtain ⟨t, fr, hg⟩ := hc w' hS'
  have hl := run_row hrt hg hn
  simp only [execOp, ho, hx, Instr.loadAt, Instr.sureAddr, Sem.run_bind, Sem.run_pure, Result.andThen_ok, hl]
end
end Go.Proofs.YtfkeaglbfembnaaDoor.Held
