/-
  Strings: cut, joined, measured, read at a place (no program).
-/
import Derived.Test.YthpioncehigoaaaMem
import Derived.Test.YthpioncehigoaaaRl
set_option linter.unusedVariables false
namespace Go.Proofs.Ythpioncehigoaaa
open Go.RowKit
set_option linter.unusedSimpArgs false

theorem strOf_size (l : List UInt8) : (strOf l).size = l.length := by rw [strOf_eq]; simp [ByteArray.size]
theorem run_lenS {P : Program} {t ty : TypeId} (ht : P.underlying t = some .string) (l : List UInt8) (W : World) : (Builtin.len_ #[t] ty #[.string (strOf l)]).run P W = .ok (.int .i64 (l.length : Int)) W := by
  rw [run_len_string W t ty _ ht, strOf_eq]
  rfl
theorem run_cutTo {P : Program} {t : TypeId} (ht : P.underlying t = some .string) (l : List UInt8) (k : Nat) (hk : k ≤ l.length) (W : World) :
    (Instr.sliceAt t (.string (strOf l)) none (some (.int .i64 (k : Int))) none).run P W = .ok (.string (strOf (l.take k))) W := by
  rw [run_sliceAt_string W t _ _ _ _ ht, run_slice_string_to_if W t _ _ _ ht, if_pos ⟨by omega, by rw [strOf_size]; omega⟩]
  have e : (strOf l).extract 0 ((k : Int).toNat) = strOf (l.take k) := by
    rw [strOf_eq, strOf_eq]
    apply ByteArray.ext
    simp
  rw [e]
theorem run_cutFrom {P : Program} {t : TypeId} (ht : P.underlying t = some .string) (l : List UInt8) (k : Nat) (j : Int) (hj : j = (k : Int)) (hk : k ≤ l.length) (W : World) :
    (Instr.sliceAt t (.string (strOf l)) (some (.int .i64 j)) none none).run P W = .ok (.string (strOf (l.drop k))) W := by
  subst hj
  rw [run_sliceAt_string W t _ _ _ _ ht, run_slice_string_from_if W t _ _ _ ht, if_pos ⟨by omega, by rw [strOf_size]; omega⟩]
  have e : (strOf l).extract ((k : Int).toNat) (strOf l).size = strOf (l.drop k) := by
    rw [strOf_size, strOf_eq, strOf_eq]
    apply ByteArray.ext
    simp [List.take_of_length_le]
  rw [e]
theorem run_idxAt {P : Program} {t : TypeId} (ht : P.underlying t = some .string) (l : List UInt8) (k : Nat) (c : UInt8) (h : l[k]? = some c) (W : World) :
    (Instr.index t (.string (strOf l)) (.int .i64 (k : Int))).run P W = .ok (.int .u8 (c.toNat : Int)) W := by
  obtain ⟨hk, hx⟩ := List.getElem?_eq_some_iff.1 h
  rw [run_index_string W t _ _ _ ht, dif_pos ⟨by omega, by rw [strOf_size]; omega⟩]
  have : ∀ (h1 : ((k : Int)).toNat < (strOf l).size), (strOf l)[((k : Int)).toNat]'h1 = c := by
    rw [strOf_eq]
    intro h1
    exact hx
  rw [this]
theorem run_cat {P : Program} (a b : List UInt8) (h : a.length + b.length ≤ 1000) (W : World) : (Op.stringOp .add (strOf a) (strOf b)).run P W = .ok (.string (strOf (a ++ b))) W := by
  rw [run_string_add_sum W _ _ (by rw [strOf_size, strOf_size]; omega)]
  have e : strOf a ++ strOf b = strOf (a ++ b) := by
    rw [strOf_eq, strOf_eq, strOf_eq]
    apply ByteArray.ext
    simp
  rw [e]
end Go.Proofs.Ythpioncehigoaaa
