/-
  More steps along a schedule: a whole row loaded. No program is named here.
-/
import Derived.Test.YthpioncehigoaaaTx
set_option linter.unusedSimpArgs false
set_option linter.unusedVariables false
namespace Go.Proofs.Ythpioncehigoaaa
open Go.RowKit

section
variable {P : Program} {ops : Array Oper} {Q : Exit → Act → World → Prop} {i : Nat} {o : Oper} {rest : List (Nat × Nat)} {a : Act} {w0 w : World} {M : Nat → Prop} {H : List Chunk}
theorem run_load_rowop {t : TypeId} {x : Operand} (hop : o.op = .load t x) {g : Nat} {cs : Array Value} {e : TypeId} (hg : w.heap[g]? = some (.cells cs e (0, 0))) (hx : a.eval x = .pointer (some ⟨g, 0, none⟩)) {d : TypeDesc}
    (hu : P.underlying t = some d) (hd : (match d with | .struct _ | .array _ _ => true | _ => false) = true) (hi : (P.info? t).map (·.size) = some cs.size) :
    (execOp a.eval o).run P w = .ok (.value (.agg cs)) w := by
  have h := run_loadVar_row (P := P) w g e t cs (0, 0) d hg hu hd hi
  unfold execOp
  simp only [hop, hx, Instr.loadAt, Instr.sureAddr, Sem.run_bind, Sem.run_pure, Result.andThen_ok, h]
theorem wpT_loadRow {t : TypeId} {x : Operand} (ho : ops[i]? = some o) (hop : o.op = .load t x) (hw : Region.wanted o (yielded ops a.tmps) = true) (hS : St w0 M w H) (k : Nat) {g : Nat} {cs : Array Value} {e : TypeId}
    (hk : H[k]? = some (.cells g cs e)) (hx : a.eval x = .pointer (some ⟨g, 0, none⟩)) {d : TypeDesc}
    (hu : P.underlying t = some d) (hd : (match d with | .struct _ | .array _ _ => true | _ => false) = true) (hi : (P.info? t).map (·.size) = some cs.size)
    (h : wpT P ops Q rest (a.put o.dst (.agg cs)) w) : wpT P ops Q ((i, 0) :: rest) a w :=
  wpT_load ho hop hw (run_load_rowop hop (hS.heap k hk) hx hu hd hi) h
/-- A call, named: the quick way. -/
theorem wpT_callF {f : FuncId} {xs : List Operand} {ts : Array TypeId} {vs : List Value} {R : Ending → World → Prop} (ho : ops[i]? = some o) (hw : Region.wanted o (yielded ops a.tmps) = true)
    (hop : o.op = .call { callee := .value (.func f), args := xs.toArray, argTypes := ts }) (hf : ∀ (args : Array Value) (w : World), (callFunc f args).run P w = .ok (.enter f args) w)
    (hx : xs.map a.eval = vs) (hc : Calls P f vs.toArray w R) (h : ∀ e w', R e w' → ∃ v, e = .returned v ∧ Below w.heap.size w w' ∧ wpT P ops Q rest (a.put o.dst v) w') : wpT P ops Q ((i, 2) :: rest) a w :=
  wpT_call ho hw fun K hK => wp_call hop hf hx hc fun e w' hr => by
    obtain ⟨v, he, hb, hk⟩ := h e w' hr
    exact ⟨v, he, hK _ _ ⟨hb, hk⟩⟩
theorem wpT_callL {f : FuncId} {xs : List Operand} {ts : Array TypeId} {vs : List Value} {R : Ending → World → Prop} (ho : ops[i]? = some o) (hw : Region.wanted o (yielded ops a.tmps) = true)
    (hop : o.op = .call { callee := .value (.func f), args := xs.toArray, argTypes := ts }) (hf : ∀ (args : Array Value) (w : World), (callFunc f args).run P w = .ok (.enter f args) w)
    (hx : xs.map a.eval = vs) (hc : Calls P f vs.toArray w R) (h : ∀ e w', R e w' → ∃ v, e = .returned v ∧ wpT P ops Q rest (a.put o.dst v) w') : wpT P ops Q ((i, 3) :: rest) a w :=
  wpT_late ho hw fun K hK => wp_call hop hf hx hc fun e w' hr => by
    obtain ⟨v, he, hk⟩ := h e w' hr
    exact ⟨v, he, hK _ _ hk⟩
theorem wpT_callA {f : FuncId} {xs : List Operand} {ts : Array TypeId} {vs : List Value} {R : Ending → World → Prop} (ho : ops[i]? = some o) (hw : Region.wanted o (yielded ops a.tmps) = true)
    (hop : o.op = .call { callee := .value (.func f), args := xs.toArray, argTypes := ts }) (hf : ∀ (args : Array Value) (w : World), (callFunc f args).run P w = .ok (.enter f args) w)
    (hx : xs.map a.eval = vs) (hc : Calls P f vs.toArray w R) (h : ∀ e w', R e w' → ∃ v, e = .returned v ∧ wpT P ops Q rest (a.put o.dst v) w') : wpT P ops Q ((i, 4) :: rest) a w :=
  wpT_any ho hw fun K hK => wp_call hop hf hx hc fun e w' hr => by
    obtain ⟨v, he, hk⟩ := h e w' hr
    exact ⟨v, he, hK _ _ hk⟩
end
end Go.Proofs.Ythpioncehigoaaa
