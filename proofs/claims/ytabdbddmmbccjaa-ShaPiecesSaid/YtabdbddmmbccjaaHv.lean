/-
  Layer 1: a list of pieces, opened.
-/
import Derived.Test.YtabdbddmmbccjaaHu
import Derived.Test.YtabdbddmmbccjaaOq
namespace Go.Proofs.Ytabdbddmmbccjaa
open Go.ChangeShapes Go.WideShapes Go.ChangeAt Go.RowKit

theorem cellsBs : Try.prog.cellsOf 22 = 1 := by kernel_rfl
theorem bytesBs : Try.prog.bytesOf 22 = 24 := by kernel_rfl
section
variable {H : Type} {enc : TypeId × Value → H} {W : World}
theorem pc_read (n : Nat) (cs : List Value) (y : DataW H × List MemPlace) (h : DataW.trod enc Try.prog W 0 (fun _ => true) true n 22 cs = some y) :
    ∃ p : PcV, cs = p.cells ∧ ((∀ n ∈ y.1.weights Try.prog 22, n ≤ reachBytes) → PcOK W p) := by
  obtain ⟨A, len, cap, rfl⟩ : ∃ A len cap, cs = [.slice A len cap] := by
    rcases DataW.trod_slice Try.underlying22 h with ⟨e, _⟩ | ⟨a, l, c, _, _, _, _, e, _⟩ <;> exact ⟨_, _, _, e⟩
  obtain ⟨l, rfl, hr, hs⟩ := open_bytes Try.underlying22 Try.underlying5 cellsU8 bytesU8 h
  exact ⟨⟨A, cap, l⟩, rfl, fun hw => ⟨hr, hs hw⟩⟩
theorem open_lists {fuel : Nat} {a : Option Addr} {len cap : Nat} {x : DataW H × List MemPlace} (h : DataW.trod enc Try.prog W 0 (fun _ => true) true fuel 26 [.slice a len cap] = some x)
    (hw : ∀ n ∈ x.1.weights Try.prog 26, n ≤ reachBytes) : ∃ ps : List PcV, len = ps.length ∧ PcsAt W (.slice a len cap) ps := by
  obtain ⟨ps, rfl, hr, hk⟩ := open_rows PcV.cells (fun _ => rfl) (by decide) (PcOK W) Try.underlying26 cellsBs bytesBs pc_read h
  exact ⟨ps, rfl, hr, fun p hp => (hk hw).1 p hp⟩
end
end Go.Proofs.Ytabdbddmmbccjaa
