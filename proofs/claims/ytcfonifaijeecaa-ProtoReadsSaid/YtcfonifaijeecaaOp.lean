/-
  How the arguments of this seat's laws are opened.
-/
import Derived.Test.YtcfonifaijeecaaPut
import Derived.Test.YtcfonifaijeecaaOpg
namespace Go.Proofs.Ytcfonifaijeecaa
open Go.ChangeShapes Go.WideShapes Go.ChangeAt Go.RowKit

theorem own : ownKnob Try.prog.godebug = none := by kernel_rfl
theorem laidOut : laidOutB Try.prog = true := by kernel_rfl
theorem cellsInt : Try.prog.cellsOf 3 = 1 := by kernel_rfl
theorem cellsBool : Try.prog.cellsOf 4 = 1 := by kernel_rfl
theorem cellsU64 : Try.prog.cellsOf 23 = 1 := by kernel_rfl
theorem cellsBytes : Try.prog.cellsOf 27 = 1 := by kernel_rfl
theorem cellsU8 : Try.prog.cellsOf 5 = 1 := by kernel_rfl
theorem bytesU8 : Try.prog.bytesOf 5 = 1 := by kernel_rfl
theorem cellsPut : Try.prog.cellsOf 31 = 4 := by kernel_rfl
theorem bytesPut : Try.prog.bytesOf 31 = 48 := by kernel_rfl

def PutOK (W : World) (p : PutV) : Prop := Rd W (.slice p.A p.b.length p.c) 1 p.b.length (bvs p.b) ∧ W64 p.n ∧ I64 p.num ∧ p.b.length ≤ 140737488351232
section
variable {H : Type} {enc : TypeId × Value → H} {W : World}
theorem put_read (n : Nat) (cs : List Value) (y : DataW H × List MemPlace) (h : DataW.trod enc Try.prog W 0 (fun _ => true) true n 31 cs = some y) :
    ∃ p : PutV, cs = p.cells ∧ ((∀ n ∈ y.1.weights Try.prog 31, n ≤ reachBytes) → PutOK W p) := by
  obtain ⟨xs, n', _, hy, hlen, hxl, hf⟩ := DataW.trod_struct Try.underlying31 h
  rw [cellsPut] at hlen
  match cs, hlen with
  | [c0, c1, c2, c3], _ =>
    match xs, hxl with
    | [y0, y1, y2, y3], _ =>
      have t0 : DataW.trod enc Try.prog W 0 (fun _ => true) true n' 3 [c0] = some y0 := by simpa [cellsInt] using hf 0 _ rfl
      have t1 : DataW.trod enc Try.prog W 0 (fun _ => true) true n' 4 [c1] = some y1 := by simpa [cellsBool] using hf 1 _ rfl
      have t2 : DataW.trod enc Try.prog W 0 (fun _ => true) true n' 23 [c2] = some y2 := by simpa [cellsU64] using hf 2 _ rfl
      have t3 : DataW.trod enc Try.prog W 0 (fun _ => true) true n' 27 [c3] = some y3 := by simpa [cellsBytes] using hf 3 _ rfl
      obtain ⟨num, h0, _, w0⟩ := DataW.trod_int Try.underlying3 t0
      obtain ⟨wh, h1, _⟩ := DataW.trod_bool Try.underlying4 t1
      obtain ⟨k, h2, _, w2⟩ := DataW.trod_int Try.underlying23 t2
      simp only [List.cons.injEq, and_true] at h0 h1 h2
      subst h0 h1 h2
      obtain ⟨m, rfl, hm⟩ := w64_of w2
      obtain ⟨A, len, cap, rfl⟩ : ∃ A len cap, c3 = .slice A len cap := by
        rcases DataW.trod_slice Try.underlying27 t3 with ⟨e, _⟩ | ⟨a, l, c, _, _, _, _, e, _⟩ <;> simp only [List.cons.injEq, and_true] at e <;> subst e <;> exact ⟨_, _, _, rfl⟩
      obtain ⟨l, rfl, hr, hs⟩ := open_bytes Try.underlying27 Try.underlying5 cellsU8 bytesU8 t3
      refine ⟨⟨num, wh, m, A, cap, l⟩, rfl, fun hw => ⟨hr, hm, i64_of w0, hs fun n hn => hw n ?_⟩⟩
      rw [hy]
      simp only [DataW.weights, Try.underlying31, List.map_cons, List.map_nil, DataW.weightsEach, List.mem_append]
      exact .inr (.inr (.inr (.inl hn)))
theorem open_puts {fuel : Nat} {a : Option Addr} {len cap : Nat} {x : DataW H × List MemPlace} (h : DataW.trod enc Try.prog W 0 (fun _ => true) true fuel 22 [.slice a len cap] = some x)
    (hw : ∀ n ∈ x.1.weights Try.prog 22, n ≤ reachBytes) : ∃ ps : List PutV, PutsAt W (.slice a len cap) ps := by
  obtain ⟨ps, rfl, hr, hk⟩ := open_rows PutV.cells (fun _ => rfl) (by decide) (PutOK W) Try.underlying22 cellsPut bytesPut put_read h
  exact ⟨ps, hr, fun p hp => (hk hw).1 p hp⟩
end

end Go.Proofs.Ytcfonifaijeecaa
