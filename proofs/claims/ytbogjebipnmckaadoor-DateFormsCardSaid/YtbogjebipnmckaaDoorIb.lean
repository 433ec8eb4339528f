/-
  strings.IndexByte, by the shelf's contracts (laid by contract.sh, turned to this seat).
-/
import Derived.Test.YtbogjebipnmckaaDoorChecked
import Derived.Lib.Strings
import Derived.Lib.Slices
import Derived.Lib.Walk
import Derived.Lib.Bytealg
import Derived.Lib.IndexAny
import Derived.Test.YtbogjebipnmckaaDoorMem
namespace Go.Proofs.YtbogjebipnmckaaDoor
open Go.RowKit
set_option maxHeartbeats 1000000 in
set_option maxRecDepth 100000 in
theorem lite_idx (s : ByteArray) (c : Int) (w : World) :
    Calls Tryd.prog 33 #[.string s, .int .u8 c] w fun e w' => e = .returned (.int .i64 (Lib.indexByte s.data.toList c.toNat.toUInt8)) ∧ w' = w := by
  go_enter Tryd.func33, Tryd.ntmps33
  go_wp2
  rw [run_callFunc_extern Tryd.func41 (by kernel_rfl) (by kernel_rfl) (by kernel_rfl) (e := Extern.BytealgIndexByte.indexByte) (by kernel_rfl), Lib.run_indexByteString]
  simp only [Result.andThen]
  rw [Oper.upon_value]
  go_wp2
  go_ret
  exact ⟨rfl, rfl⟩
set_option maxHeartbeats 1000000 in
theorem idx_any (s : List UInt8) (c : UInt8) (w : World) :
    Calls Tryd.prog 30 #[.string (strOf s), .int .u8 (c.toNat : Int)] w fun e w' => e = .returned (.int .i64 (Lib.indexByte s c)) ∧ w = w' := by
  have e1 : (strOf s).data.toList = s := by rw [strOf_eq]
  have e2 : ((c.toNat : Int)).toNat.toUInt8 = c := by simp
  have h := fun W => lite_idx (strOf s) (c.toNat : Int) W
  rw [e1, e2] at h
  have H := hide h
  clear h e1 e2
  go_enter Tryd.func30, Tryd.ntmps30
  go_wp2_with (go_at_call 33; (with_reducible refine (H.out _).mono ?_); rintro e w' ⟨rfl, rfl⟩)
  go_ret
  exact ⟨rfl, rfl⟩
theorem idx_mem (ss : List UInt8) (c : UInt8) : decide (Lib.indexByte ss c < 0) = !decide (c ∈ ss) := by
  have h := Lib.contains_iff_indexByte ss c
  by_cases hm : c ∈ ss
  · have : ss.contains c = true := by simpa using hm
    rw [this] at h
    have h' := of_decide_eq_true h.symm
    simp [hm]
    exact h'
  · have : ss.contains c = false := by simpa using hm
    rw [this] at h
    have h' := of_decide_eq_false h.symm
    simp [hm]
    omega
end Go.Proofs.YtbogjebipnmckaaDoor
