/-
  Layer 18: StoreNil's walk, for a text that came in.
-/
import Derived.Test.YthpioncehigoaaaYr
namespace Go.Proofs.Ythpioncehigoaaa
open Go.RowKit
theorem storeNil_str (f : Fc) (s : ByteArray) (n : Int) (w : World) (hf : FcOK w f) : Calls Try.prog 6 #[f.val, .string s, .int .i64 n] w fun e w' => e = .returned (.bool true) ∧ Below w.heap.size w w' := by
  have h := storeNil_walk f s.data.toList n w hf
  have es : (⟨s.data.toList.toArray⟩ : ByteArray) = s := by cases s; rfl
  rw [strOf_eq, es] at h
  exact h
end Go.Proofs.Ythpioncehigoaaa
