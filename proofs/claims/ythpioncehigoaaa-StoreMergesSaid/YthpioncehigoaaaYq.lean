/-
  How facts that came in are opened.
-/
import Derived.Test.YthpioncehigoaaaYp
import Derived.Test.YthpioncehigoaaaOt
set_option linter.unusedSimpArgs false
set_option linter.unusedVariables false
namespace Go.Proofs.Ythpioncehigoaaa
open Go.ChangeShapes Go.WideShapes Go.ChangeAt Go.RowKit Go.Deep

theorem cellsFc : Try.prog.cellsOf 27 = 3 := by kernel_rfl
theorem bytesFc : Try.prog.bytesOf 27 = 48 := by kernel_rfl
theorem cellsPred : Try.prog.cellsOf 24 = 2 := by kernel_rfl
theorem cellsU32 : Try.prog.cellsOf 25 = 1 := by kernel_rfl
theorem u32_rng {n : Int} (h : (Lit.int .u32 n).wf = true) : U32 n := by
  simp [Lit.wf, IntKind.min, IntKind.max, IntKind.signed, IntKind.bits] at h
  unfold U32
  omega
section
variable {H : Type} {enc : TypeId × Value → H} {W : World}
set_option maxRecDepth 100000 in
theorem fc_read (n : Nat) (cs : List Value) (y : DataW H × List MemPlace) (h : DataW.trod enc Try.prog W 0 (fun _ => true) true n 27 cs = some y) :
    ∃ f : Fc, cs = f.cells ∧ ((∀ n ∈ y.1.weights Try.prog 27, n ≤ reachBytes) → FcOK W f) := by
  obtain ⟨xs, n', hn', hy, hlen, hxl, hf⟩ := DataW.trod_struct Try.underlying27 h
  rw [cellsFc] at hlen
  match cs, hlen with
  | [c0, c1, c2], _ =>
    match xs, hxl with
    | [y0, y1], _ =>
      have t0 : DataW.trod enc Try.prog W 0 (fun _ => true) true n' 24 [c0, c1] = some y0 := by simpa [cellsPred] using hf 0 _ rfl
      have t1 : DataW.trod enc Try.prog W 0 (fun _ => true) true n' 25 [c2] = some y1 := by simpa [cellsU32] using hf 1 _ rfl
      obtain ⟨xs2, n2, hn2, hy2, hlen2, hxl2, hf2⟩ := DataW.trod_struct Try.underlying24 t0
      match xs2, hxl2 with
      | [z0, z1], _ =>
        have u0 : DataW.trod enc Try.prog W 0 (fun _ => true) true n2 9 [c0] = some z0 := by simpa [cellsStr] using hf2 0 _ rfl
        have u1 : DataW.trod enc Try.prog W 0 (fun _ => true) true n2 22 [c1] = some z1 := by simpa [cellsTms] using hf2 1 _ rfl
        obtain ⟨s, h0, _, w0⟩ := DataW.trod_string Try.underlying9 u0
        obtain ⟨o, h2, _, w2⟩ := DataW.trod_int Try.underlying25 t1
        simp only [List.cons.injEq, and_true] at h0 h2
        subst h0 h2
        obtain ⟨A, len, cap, rfl⟩ : ∃ A len cap, c1 = .slice A len cap := by
          rcases DataW.trod_slice Try.underlying22 u1 with ⟨e, _⟩ | ⟨a, l, c, _, _, _, _, e, _⟩ <;> simp only [List.cons.injEq, and_true] at e <;> subst e <;> exact ⟨_, _, _, rfl⟩
        obtain ⟨l, rfl, hr, hk⟩ := open_rowsF Tm.cells Tm.cells_length (by decide) (TmOK W) Try.underlying22 cellsTm bytesTm (fun m cs' y' hm hy' => tm_read (m + 1) m cs' y' (Nat.lt_succ_self m) hy') u1
        have es : (⟨s.data.toList.toArray⟩ : ByteArray) = s := by cases s; rfl
        refine ⟨⟨s.data.toList, A, cap, l, o⟩, ?_, fun hw => ?_⟩
        · show _ = [Value.string (strOf s.data.toList), _, _]
          rw [strOf_eq, es]
          rfl
        · have hwP : ∀ n ∈ y0.1.weights Try.prog 24, n ≤ reachBytes := fun n hn => hw n (by
            rw [hy]
            simp only [DataW.weights, Try.underlying27, List.map_cons, List.map_nil, DataW.weightsEach, List.mem_append]
            exact .inl hn)
          have hw1 : ∀ n ∈ z1.1.weights Try.prog 22, n ≤ reachBytes := fun n hn => hwP n (by
            rw [hy2]
            simp only [DataW.weights, Try.underlying24, List.map_cons, List.map_nil, DataW.weightsEach, List.mem_append]
            exact .inr (.inl hn))
          obtain ⟨h4, h5⟩ := hk hw1
          refine ⟨⟨hr, h4⟩, ⟨?_, ?_, ?_⟩⟩
          · show s.data.toList.length ≤ _
            rw [Array.length_toList]
            have : s.size ≤ maxLen := w0
            unfold maxLen at this
            exact this
          · show l.length ≤ _
            omega
          · exact u32_rng w2
set_option maxRecDepth 100000 in
theorem open_facts {fuel : Nat} {a : Option Addr} {len cap : Nat} {x : DataW H × List MemPlace} (h : DataW.trod enc Try.prog W 0 (fun _ => true) true fuel 29 [.slice a len cap] = some x)
    (hw : ∀ n ∈ x.1.weights Try.prog 29, n ≤ reachBytes) : ∃ l : List Fc, len = l.length ∧ FcsAt W (.slice a len cap) l ∧ l.length ≤ 140737488351232 := by
  obtain ⟨l, rfl, hr, hk⟩ := open_rowsF Fc.cells Fc.cells_length (by decide) (FcOK W) Try.underlying29 cellsFc bytesFc (fun m cs' y' hm hy' => fc_read m cs' y' hy') h
  obtain ⟨h4, h5⟩ := hk hw
  exact ⟨l, rfl, ⟨hr, h4⟩, by omega⟩
set_option maxRecDepth 100000 in
theorem open_fact {v : Value} {d : DataW H} {ps : List MemPlace} {r : Reach} {b0 : Nat} (hok : Value.okWide Try.prog W r b0 27 v) (h : DataW.Trod enc Try.prog W 0 (fun _ => true) true 27 v d ps)
    (hw : ∀ n ∈ d.weights Try.prog 27, n ≤ reachBytes) : ∃ f : Fc, v = f.val ∧ FcOK W f := by
  obtain ⟨cs, rfl, _⟩ := okWide_struct Try.underlying27 hok
  obtain ⟨fuel, hf⟩ := h
  obtain ⟨t, ht, hk⟩ := fc_read fuel cs.toList (d, ps) hf
  refine ⟨t, ?_, hk hw⟩
  have e : cs = t.cells.toArray := by rw [← ht]
  rw [e]
  rfl
end
end Go.Proofs.Ythpioncehigoaaa
