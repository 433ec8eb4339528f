/-
  Layer 8: strconv.FormatInt and strings.Repeat, laid off the shelf (the layings: Ls).
-/
import Derived.Shelf.Strconv.Itoa4
import Derived.Shelf.Strings.Repeat
import Derived.Lib.AppendIntMem
import Derived.Test.YtbogjebipnmckaaDoorLs
import Derived.Test.YtbogjebipnmckaaDoorMem
namespace Go.Proofs.YtbogjebipnmckaaDoor
open Go.Shelf Go.RowKit

theorem extraR : Builder.Extra Tryd.prog laysR_ren where
  sizeBuilder := by kernel_rfl
  liesBuilder := by kernel_rfl
  t5 := laysR.t5
  a5 := laysR.a5
  z5 := laysR.z5
  v5 := laysR.v5
  infoByte := by kernel_rfl
  cellsByte := by kernel_rfl
  sizeByte := by kernel_rfl
  neB5 := by decide
theorem repeat_any (s : List UInt8) (c : Nat) (w : World) (hc : c ≤ 1000) (hl : s.length ≤ 1000) :
    Calls Tryd.prog 32 #[.string (strOf s), .int .i64 (c : Int)] w fun e w' => e = .returned (.string (strOf (Lib.repeatL s c))) ∧ Below w.heap.size w w' := by
  have e1 : (strOf s).data.toList = s := by rw [strOf_eq]
  have e2 : (strOf s).size = s.length := by rw [strOf_eq]; simp [ByteArray.size]
  have h := Any.strings_Repeat laysR extraR (strOf s) c w (by omega) (by rw [e2]; exact Nat.le_trans (Nat.mul_le_mul hl hc) (by decide))
  rw [e1] at h
  rw [strOf_eq (Lib.repeatL s c)]
  exact h
/-- The table of the powers of ten lies there. -/
def Tb (w : World) : Prop := Lib.TabIs Tryd.prog w "internal/strconv.uint64pow10" .u64 Lib.pow10Tab
theorem Tb.on {w w' : World} (h : Tb w) (hb : Below w.heap.size w w') : Tb w' := Lib.tabBelow_of_tabIs h w' hb
theorem format_any (n : Nat) (hn : n ≤ 9999) (w : World) (ht : Tb w) :
    Calls Tryd.prog 31 #[.int .i64 (n : Int), .int .i64 10] w fun e w' => e = .returned (.string (strOf (Lib.decDigits n))) ∧ Below w.heap.size w w' := by
  have h := Any.strconv_FormatInt_10 laysF (n : Int) (by omega) (by omega) w ht
  have e : Lib.itoa (n : Int) = Lib.decDigits n := by
    unfold Lib.itoa
    rw [if_neg (by omega)]
    rfl
  rw [e] at h
  rw [strOf_eq]
  refine h.mono ?_
  rintro e w' ⟨rfl, k, os, rfl⟩
  exact ⟨rfl, Lib.below_grow _ w (Nat.le_refl _) k os⟩
theorem run_cat {P : Program} (a b : List UInt8) (h : a.length + b.length ≤ 1000) (W : World) : (Op.stringOp .add (strOf a) (strOf b)).run P W = .ok (.string (strOf (a ++ b))) W := by
  rw [run_string_add_sum W _ _ (by rw [strOf_eq, strOf_eq]; simp [ByteArray.size]; omega)]
  have e : strOf a ++ strOf b = strOf (a ++ b) := by
    rw [strOf_eq, strOf_eq, strOf_eq]
    apply ByteArray.ext
    simp
  rw [e]
theorem run_lenS {P : Program} {t ty : TypeId} (ht : P.underlying t = some .string) (l : List UInt8) (W : World) : (Builtin.len_ #[t] ty #[.string (strOf l)]).run P W = .ok (.int .i64 (l.length : Int)) W := by
  rw [run_len_string W t ty _ ht, strOf_eq]
  rfl
theorem decD_length (n : Nat) : (Lib.decDigits n).length = Lib.nDigits n := by
  induction n using Nat.strongRecOn with
  | ind n ih =>
    rw [Lib.decDigits, Lib.nDigits]
    split
    · rfl
    · rw [List.length_append, ih (n / 10) (by omega)]
      rfl
/-- What padded prints. -/
@[irreducible] def padT (k n : Nat) : List UInt8 := Lib.repeatL [48] (k - (Lib.decDigits n).length) ++ Lib.decDigits n
set_option maxRecDepth 100000 in
set_option maxHeartbeats 800000 in
theorem padded_any (k n : Nat) (hk : k ≤ 4) (hn : n ≤ 9999) (w : World) (ht : Tb w) :
    Calls Tryd.prog 28 #[.int .i64 (n : Int), .int .i64 (k : Int)] w fun e w' => e = .returned (.string (strOf (padT k n))) ∧ Below w.heap.size w w' := by
  have HF := hide (format_any n hn w ht)
  have hlen : (Lib.decDigits n).length ≤ 4 := by
    rw [decD_length]
    by_cases h1 : n < 10
    · rw [Lib.nDigits_small h1]; omega
    · rw [Lib.nDigits_big h1]
      by_cases h2 : n / 10 < 10
      · rw [Lib.nDigits_small h2]; omega
      · rw [Lib.nDigits_big h2]
        by_cases h3 : n / 10 / 10 < 10
        · rw [Lib.nDigits_small h3]; omega
        · rw [Lib.nDigits_big h3, Lib.nDigits_small (by omega)]; omega
  have HP := hide (show padT k n = Lib.repeatL [48] (k - (Lib.decDigits n).length) ++ Lib.decDigits n by unfold padT; rfl)
  obtain ⟨d, hd⟩ : ∃ d, d = Lib.decDigits n := ⟨_, rfl⟩
  rw [← hd] at HF hlen HP
  clear hd
  have hl := fun W => run_lenS (P := Tryd.prog) (t := 9) (ty := 3) (by kernel_rfl) d W
  obtain ⟨m, hm⟩ : ∃ m, m = d.length := ⟨_, rfl⟩
  rw [← hm] at hl hlen HP
  have HR := hide (fun W => repeat_any [48] (k - m) W (by omega) (by decide))
  rw [strOf_eq [48], show (((k - m : Nat)) : Int) = max 0 ((k : Int) - (m : Int)) by omega] at HR
  have hc : ∀ W, (Op.stringOp .add (strOf (Lib.repeatL [48] (k - m))) (strOf d)).run Tryd.prog W = .ok (.string (strOf (padT k n))) W := by
    rw [HP.out]
    intro W
    refine run_cat _ _ ?_ W
    rw [Lib.repeatL_length]
    simp
    omega
  clear hm
  go_enter Tryd.func28, Tryd.ntmps28
  go_wp2_with (first
    | (go_at_call 31; (with_reducible refine HF.out.mono ?_); rintro e w1 ⟨rfl, hb⟩; have HB := hide hb; clear hb)
    | (go_at_call 32; (with_reducible refine (HR.out _).mono ?_); rintro e w2 ⟨rfl, hb⟩; have HB2 := hide hb; clear hb))
  go_ret
  exact ⟨rfl, HB.out.trans (HB2.out.mono HB.out.size)⟩
end Go.Proofs.YtbogjebipnmckaaDoor
