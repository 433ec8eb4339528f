/-
  Layer 8: Parse.
-/
import Derived.Test.YtbogjebipnmckaaDoorDd
namespace Go.Proofs.YtbogjebipnmckaaDoor
open Go.RowKit
set_option linter.unusedSimpArgs false

@[irreducible] def pq0 (l : List UInt8) : List UInt8 := l
@[irreducible] def pf0 (_ : List UInt8) : Bool := false
@[irreducible] def pY (l : List UInt8) : Nat := numV 4 (pq0 l)
@[irreducible] def pq1 (l : List UInt8) : List UInt8 := numR 4 (pq0 l)
@[irreducible] def pf1 (l : List UInt8) : Bool := pf0 l || !numB 4 (pq0 l) 9999
@[irreducible] def pc2 (l : List UInt8) : Nat := sgV [45] (pq1 l)
@[irreducible] def pq2 (l : List UInt8) : List UInt8 := sgR [45] (pq1 l)
@[irreducible] def pf2 (l : List UInt8) : Bool := pf1 l || !sgB [45] (pq1 l)
@[irreducible] def pM (l : List UInt8) : Nat := numV 2 (pq2 l)
@[irreducible] def pq3 (l : List UInt8) : List UInt8 := numR 2 (pq2 l)
@[irreducible] def pf3 (l : List UInt8) : Bool := pf2 l || !numB 2 (pq2 l) 12
@[irreducible] def pc4 (l : List UInt8) : Nat := sgV [45] (pq3 l)
@[irreducible] def pq4 (l : List UInt8) : List UInt8 := sgR [45] (pq3 l)
@[irreducible] def pf4 (l : List UInt8) : Bool := pf3 l || !sgB [45] (pq3 l)
@[irreducible] def pD (l : List UInt8) : Nat := numV 2 (pq4 l)
@[irreducible] def pq5 (l : List UInt8) : List UInt8 := numR 2 (pq4 l)
@[irreducible] def pf5 (l : List UInt8) : Bool := pf4 l || !numB 2 (pq4 l) 31
@[irreducible] def pc6 (l : List UInt8) : Nat := sgV [84] (pq5 l)
@[irreducible] def pq6 (l : List UInt8) : List UInt8 := sgR [84] (pq5 l)
@[irreducible] def pf6 (l : List UInt8) : Bool := pf5 l || !sgB [84] (pq5 l)
@[irreducible] def pH (l : List UInt8) : Nat := numV 2 (pq6 l)
@[irreducible] def pq7 (l : List UInt8) : List UInt8 := numR 2 (pq6 l)
@[irreducible] def pf7 (l : List UInt8) : Bool := pf6 l || !numB 2 (pq6 l) 23
@[irreducible] def pc8 (l : List UInt8) : Nat := sgV [58] (pq7 l)
@[irreducible] def pq8 (l : List UInt8) : List UInt8 := sgR [58] (pq7 l)
@[irreducible] def pf8 (l : List UInt8) : Bool := pf7 l || !sgB [58] (pq7 l)
@[irreducible] def pI (l : List UInt8) : Nat := numV 2 (pq8 l)
@[irreducible] def pq9 (l : List UInt8) : List UInt8 := numR 2 (pq8 l)
@[irreducible] def pf9 (l : List UInt8) : Bool := pf8 l || !numB 2 (pq8 l) 59
@[irreducible] def pc10 (l : List UInt8) : Nat := sgV [58] (pq9 l)
@[irreducible] def pq10 (l : List UInt8) : List UInt8 := sgR [58] (pq9 l)
@[irreducible] def pf10 (l : List UInt8) : Bool := pf9 l || !sgB [58] (pq9 l)
@[irreducible] def pS (l : List UInt8) : Nat := numV 2 (pq10 l)
@[irreducible] def pq11 (l : List UInt8) : List UInt8 := numR 2 (pq10 l)
@[irreducible] def pf11 (l : List UInt8) : Bool := pf10 l || !numB 2 (pq10 l) 59
@[irreducible] def pO (l : List UInt8) : Int := offV (pq11 l)
@[irreducible] def pq12 (l : List UInt8) : List UInt8 := offR (pq11 l)
@[irreducible] def pf12 (l : List UInt8) : Bool := pf11 l || !offB (pq11 l)
/-- The days of the text's day; are there any. -/
@[irreducible] def pN (l : List UInt8) : Int := if dayB (pY l) (pM l) (pD l) = true then dayN (pY l) (pM l) (pD l) else 0
@[irreducible] def pK (l : List UInt8) : Bool := dayB (pY l) (pM l) (pD l)
theorem dayV_pN (l : List UInt8) : dayV (pY l) (pM l) (pD l) = .tuple #[.int .i64 (pN l), .bool (pK l)] := by
  unfold dayV pN pK
  split
  · rename_i h
    rw [h]
  · rename_i h
    have : dayB (pY l) (pM l) (pD l) = false := by simpa using h
    rw [this]
theorem dayN_bd {y m d : Int} (h : dayB y m d = true) : -719528 ≤ dayN y m d ∧ dayN y m d ≤ 3000000 := by
  unfold dayB at h
  obtain ⟨a, b, c, e, f, g⟩ := of_decide_eq_true h
  unfold dayN
  have h1 := yrs_bd y a (by omega)
  have h2 := cuM_bd y (m - 1).toNat (by omega)
  have h3 := moD_bd y (m - 1).toNat (by omega)
  omega
theorem pN_bd (l : List UInt8) : -719528 ≤ pN l ∧ pN l ≤ 3000000 := by
  unfold pN
  split
  · rename_i h
    exact dayN_bd h
  · omega
theorem offV_bd (l : List UInt8) : -400000 ≤ offV l ∧ offV l ≤ 400000 := by
  have h1 : numV 2 (sgR zpm l) < 100 := numV_lt 2 _
  have h2 : numV 2 (sgR [58] (numR 2 (sgR zpm l))) < 100 := numV_lt 2 _
  unfold offV
  dsimp only
  split
  · omega
  · split <;> omega
/-- The moment of the text. -/
@[irreducible] def parN (l : List UInt8) : Int := 86400 * pN l + 3600 * (pH l : Int) + 60 * (pI l : Int) + (pS l : Int) - pO l
@[irreducible] def parOk (l : List UInt8) : Bool := pK l && (!pf12 l && (decide (pq12 l = []) && decide (0 ≤ parN l ∧ parN l ≤ 253402300799)))
def parV (l : List UInt8) : Value := if parOk l = true then .tuple #[.int .i64 (parN l), .bool true] else .tuple #[.int .i64 0, .bool false]
set_option maxRecDepth 100000 in
set_option maxHeartbeats 800000 in
theorem parse_any (l : List UInt8) (w : World) : Calls Tryd.prog 10 #[.string (strOf l)] w fun e w' => e = .returned (parV l) ∧ Below w.heap.size w w' := by
  have hS0 : St w NoB (w.alloc (.cells #[.string (strOf l), .bool false] 38)) (RdC8 w.heap.size (pq0 l) (pf0 l) []) := by
    unfold pq0 pf0
    exact (St.init w NoB).alloc #[.string (strOf l), .bool false] 38
  have HS := hide hS0
  clear hS0
  have H1 : Hid (∀ W, St w NoB W (RdC8 w.heap.size (pq0 l) (pf0 l) []) → Calls Tryd.prog 19 #[.pointer (some ⟨w.heap.size, 0, none⟩), .int .i64 4, .int .i64 9999] W fun e w' => e = .returned (.int .i64 (pY l : Int)) ∧ St w NoB w' (RdC8 w.heap.size (pq1 l) (pf1 l) [])) := hide (fun W hS => by have h := number_c (w0 := w) (M := NoB) (H := []) w.heap.size 4 9999 (pq0 l) (pf0 l) W (by omega) (by omega) 4 9999 rfl rfl hS; unfold pY pq1 pf1; exact h)
  have H2 : Hid (∀ W, St w NoB W (RdC8 w.heap.size (pq1 l) (pf1 l) []) → Calls Tryd.prog 20 #[.pointer (some ⟨w.heap.size, 0, none⟩), .string ⟨#[45]⟩] W fun e w' => e = .returned (.int .u8 (pc2 l : Int)) ∧ St w NoB w' (RdC8 w.heap.size (pq2 l) (pf2 l) [])) := hide (fun W hS => by have h := sign_any (w0 := w) (M := NoB) (H := []) w.heap.size [45] (pq1 l) (pf1 l) W hS; rw [strOf_eq] at h; unfold pc2 pq2 pf2; exact h)
  have H3 : Hid (∀ W, St w NoB W (RdC8 w.heap.size (pq2 l) (pf2 l) []) → Calls Tryd.prog 19 #[.pointer (some ⟨w.heap.size, 0, none⟩), .int .i64 2, .int .i64 12] W fun e w' => e = .returned (.int .i64 (pM l : Int)) ∧ St w NoB w' (RdC8 w.heap.size (pq3 l) (pf3 l) [])) := hide (fun W hS => by have h := number_c (w0 := w) (M := NoB) (H := []) w.heap.size 2 12 (pq2 l) (pf2 l) W (by omega) (by omega) 2 12 rfl rfl hS; unfold pM pq3 pf3; exact h)
  have H4 : Hid (∀ W, St w NoB W (RdC8 w.heap.size (pq3 l) (pf3 l) []) → Calls Tryd.prog 20 #[.pointer (some ⟨w.heap.size, 0, none⟩), .string ⟨#[45]⟩] W fun e w' => e = .returned (.int .u8 (pc4 l : Int)) ∧ St w NoB w' (RdC8 w.heap.size (pq4 l) (pf4 l) [])) := hide (fun W hS => by have h := sign_any (w0 := w) (M := NoB) (H := []) w.heap.size [45] (pq3 l) (pf3 l) W hS; rw [strOf_eq] at h; unfold pc4 pq4 pf4; exact h)
  have H5 : Hid (∀ W, St w NoB W (RdC8 w.heap.size (pq4 l) (pf4 l) []) → Calls Tryd.prog 19 #[.pointer (some ⟨w.heap.size, 0, none⟩), .int .i64 2, .int .i64 31] W fun e w' => e = .returned (.int .i64 (pD l : Int)) ∧ St w NoB w' (RdC8 w.heap.size (pq5 l) (pf5 l) [])) := hide (fun W hS => by have h := number_c (w0 := w) (M := NoB) (H := []) w.heap.size 2 31 (pq4 l) (pf4 l) W (by omega) (by omega) 2 31 rfl rfl hS; unfold pD pq5 pf5; exact h)
  have H6 : Hid (∀ W, St w NoB W (RdC8 w.heap.size (pq5 l) (pf5 l) []) → Calls Tryd.prog 20 #[.pointer (some ⟨w.heap.size, 0, none⟩), .string ⟨#[84]⟩] W fun e w' => e = .returned (.int .u8 (pc6 l : Int)) ∧ St w NoB w' (RdC8 w.heap.size (pq6 l) (pf6 l) [])) := hide (fun W hS => by have h := sign_any (w0 := w) (M := NoB) (H := []) w.heap.size [84] (pq5 l) (pf5 l) W hS; rw [strOf_eq] at h; unfold pc6 pq6 pf6; exact h)
  have H7 : Hid (∀ W, St w NoB W (RdC8 w.heap.size (pq6 l) (pf6 l) []) → Calls Tryd.prog 19 #[.pointer (some ⟨w.heap.size, 0, none⟩), .int .i64 2, .int .i64 23] W fun e w' => e = .returned (.int .i64 (pH l : Int)) ∧ St w NoB w' (RdC8 w.heap.size (pq7 l) (pf7 l) [])) := hide (fun W hS => by have h := number_c (w0 := w) (M := NoB) (H := []) w.heap.size 2 23 (pq6 l) (pf6 l) W (by omega) (by omega) 2 23 rfl rfl hS; unfold pH pq7 pf7; exact h)
  have H8 : Hid (∀ W, St w NoB W (RdC8 w.heap.size (pq7 l) (pf7 l) []) → Calls Tryd.prog 20 #[.pointer (some ⟨w.heap.size, 0, none⟩), .string ⟨#[58]⟩] W fun e w' => e = .returned (.int .u8 (pc8 l : Int)) ∧ St w NoB w' (RdC8 w.heap.size (pq8 l) (pf8 l) [])) := hide (fun W hS => by have h := sign_any (w0 := w) (M := NoB) (H := []) w.heap.size [58] (pq7 l) (pf7 l) W hS; rw [strOf_eq] at h; unfold pc8 pq8 pf8; exact h)
  have H9 : Hid (∀ W, St w NoB W (RdC8 w.heap.size (pq8 l) (pf8 l) []) → Calls Tryd.prog 19 #[.pointer (some ⟨w.heap.size, 0, none⟩), .int .i64 2, .int .i64 59] W fun e w' => e = .returned (.int .i64 (pI l : Int)) ∧ St w NoB w' (RdC8 w.heap.size (pq9 l) (pf9 l) [])) := hide (fun W hS => by have h := number_c (w0 := w) (M := NoB) (H := []) w.heap.size 2 59 (pq8 l) (pf8 l) W (by omega) (by omega) 2 59 rfl rfl hS; unfold pI pq9 pf9; exact h)
  have H10 : Hid (∀ W, St w NoB W (RdC8 w.heap.size (pq9 l) (pf9 l) []) → Calls Tryd.prog 20 #[.pointer (some ⟨w.heap.size, 0, none⟩), .string ⟨#[58]⟩] W fun e w' => e = .returned (.int .u8 (pc10 l : Int)) ∧ St w NoB w' (RdC8 w.heap.size (pq10 l) (pf10 l) [])) := hide (fun W hS => by have h := sign_any (w0 := w) (M := NoB) (H := []) w.heap.size [58] (pq9 l) (pf9 l) W hS; rw [strOf_eq] at h; unfold pc10 pq10 pf10; exact h)
  have H11 : Hid (∀ W, St w NoB W (RdC8 w.heap.size (pq10 l) (pf10 l) []) → Calls Tryd.prog 19 #[.pointer (some ⟨w.heap.size, 0, none⟩), .int .i64 2, .int .i64 59] W fun e w' => e = .returned (.int .i64 (pS l : Int)) ∧ St w NoB w' (RdC8 w.heap.size (pq11 l) (pf11 l) [])) := hide (fun W hS => by have h := number_c (w0 := w) (M := NoB) (H := []) w.heap.size 2 59 (pq10 l) (pf10 l) W (by omega) (by omega) 2 59 rfl rfl hS; unfold pS pq11 pf11; exact h)
  have H12 : Hid (∀ W, St w NoB W (RdC8 w.heap.size (pq11 l) (pf11 l) []) → Calls Tryd.prog 21 #[.pointer (some ⟨w.heap.size, 0, none⟩)] W fun e w' => e = .returned (.int .i64 (pO l)) ∧ St w NoB w' (RdC8 w.heap.size (pq12 l) (pf12 l) [])) := hide (fun W hS => by have h := offset_any (w0 := w) (M := NoB) (H := []) w.heap.size (pq11 l) (pf11 l) W hS; unfold pO pq12 pf12; exact h)
  have HD := hide (fun W => days_any (pY l) (pM l) (pD l) W)
  rw [dayV_pN] at HD
  obtain ⟨n0, n1⟩ := pN_bd l
  have hh : pH l < 100 := by unfold pH; exact numV_lt 2 _
  have hi : pI l < 100 := by unfold pI; exact numV_lt 2 _
  have hs : pS l < 100 := by unfold pS; exact numV_lt 2 _
  obtain ⟨o0, o1⟩ : -400000 ≤ pO l ∧ pO l ≤ 400000 := by unfold pO; exact offV_bd _
  have HN := hide (show parN l = 86400 * pN l + 3600 * (pH l : Int) + 60 * (pI l : Int) + (pS l : Int) - pO l by unfold parN; rfl)
  have HO := hide (show parOk l = (pK l && (!pf12 l && (decide (pq12 l = []) && decide (0 ≤ parN l ∧ parN l ≤ 253402300799)))) by unfold parOk; rfl)
  cases hK : pK l
  · rw [hK] at HD HO
    clear hK
    have hv : parV l = .tuple #[.int .i64 0, .bool false] := by
      unfold parV
      rw [if_neg]
      rw [HO.out]
      simp
    have HV := hide hv
    clear hv
    go_enter Tryd.func10, Tryd.ntmps10
    go_wp2_with (first
      | (go_at_call 19; (with_reducible refine (H1.out _ HS.out).mono ?_); rintro e w' ⟨rfl, hS⟩; have HS := hide hS; clear hS)
      | (go_at_call 20; (with_reducible refine (H2.out _ HS.out).mono ?_); rintro e w' ⟨rfl, hS⟩; have HS := hide hS; clear hS)
      | (go_at_call 19; (with_reducible refine (H3.out _ HS.out).mono ?_); rintro e w' ⟨rfl, hS⟩; have HS := hide hS; clear hS)
      | (go_at_call 20; (with_reducible refine (H4.out _ HS.out).mono ?_); rintro e w' ⟨rfl, hS⟩; have HS := hide hS; clear hS)
      | (go_at_call 19; (with_reducible refine (H5.out _ HS.out).mono ?_); rintro e w' ⟨rfl, hS⟩; have HS := hide hS; clear hS)
      | (go_at_call 20; (with_reducible refine (H6.out _ HS.out).mono ?_); rintro e w' ⟨rfl, hS⟩; have HS := hide hS; clear hS)
      | (go_at_call 19; (with_reducible refine (H7.out _ HS.out).mono ?_); rintro e w' ⟨rfl, hS⟩; have HS := hide hS; clear hS)
      | (go_at_call 20; (with_reducible refine (H8.out _ HS.out).mono ?_); rintro e w' ⟨rfl, hS⟩; have HS := hide hS; clear hS)
      | (go_at_call 19; (with_reducible refine (H9.out _ HS.out).mono ?_); rintro e w' ⟨rfl, hS⟩; have HS := hide hS; clear hS)
      | (go_at_call 20; (with_reducible refine (H10.out _ HS.out).mono ?_); rintro e w' ⟨rfl, hS⟩; have HS := hide hS; clear hS)
      | (go_at_call 19; (with_reducible refine (H11.out _ HS.out).mono ?_); rintro e w' ⟨rfl, hS⟩; have HS := hide hS; clear hS)
      | (go_at_call 21; (with_reducible refine (H12.out _ HS.out).mono ?_); rintro e w' ⟨rfl, hS⟩; have HS := hide hS; have c0 := hS.cell 0 rfl 0; have c1 := hS.cell 0 rfl 1; clear hS)
      | (go_at_call 12; (with_reducible refine (HD.out _).mono ?_); rintro e w' ⟨rfl, rfl⟩))
    go_ret2
    rw [HV.out]
    exact ⟨rfl, HS.out.below⟩
  · rw [hK] at HD HO
    clear hK
    cases hF : pf12 l
    · rw [hF] at HO H12
      by_cases hq : pq12 l = []
      · rw [hq] at HO H12
        clear hq hF
        by_cases hn : 0 ≤ parN l
        · by_cases hm : parN l ≤ 253402300799
          · have hv : parV l = .tuple #[.int .i64 (parN l), .bool true] := by
              unfold parV
              rw [if_pos]
              rw [HO.out]
              simp [hn, hm]
            have HV := hide hv
            clear hv
            have d0 : decide (86400 * pN l + 3600 * (pH l : Int) + 60 * (pI l : Int) + (pS l : Int) - pO l < 0) = false := by rw [← HN.out]; simp; omega
            have d1 : decide (253402300799 < 86400 * pN l + 3600 * (pH l : Int) + 60 * (pI l : Int) + (pS l : Int) - pO l) = false := by rw [← HN.out]; simp; omega
            clear hn hm
            go_enter Tryd.func10, Tryd.ntmps10
            go_wp2_with (first
              | (go_at_call 19; (with_reducible refine (H1.out _ HS.out).mono ?_); rintro e w' ⟨rfl, hS⟩; have HS := hide hS; clear hS)
              | (go_at_call 20; (with_reducible refine (H2.out _ HS.out).mono ?_); rintro e w' ⟨rfl, hS⟩; have HS := hide hS; clear hS)
              | (go_at_call 19; (with_reducible refine (H3.out _ HS.out).mono ?_); rintro e w' ⟨rfl, hS⟩; have HS := hide hS; clear hS)
              | (go_at_call 20; (with_reducible refine (H4.out _ HS.out).mono ?_); rintro e w' ⟨rfl, hS⟩; have HS := hide hS; clear hS)
              | (go_at_call 19; (with_reducible refine (H5.out _ HS.out).mono ?_); rintro e w' ⟨rfl, hS⟩; have HS := hide hS; clear hS)
              | (go_at_call 20; (with_reducible refine (H6.out _ HS.out).mono ?_); rintro e w' ⟨rfl, hS⟩; have HS := hide hS; clear hS)
              | (go_at_call 19; (with_reducible refine (H7.out _ HS.out).mono ?_); rintro e w' ⟨rfl, hS⟩; have HS := hide hS; clear hS)
              | (go_at_call 20; (with_reducible refine (H8.out _ HS.out).mono ?_); rintro e w' ⟨rfl, hS⟩; have HS := hide hS; clear hS)
              | (go_at_call 19; (with_reducible refine (H9.out _ HS.out).mono ?_); rintro e w' ⟨rfl, hS⟩; have HS := hide hS; clear hS)
              | (go_at_call 20; (with_reducible refine (H10.out _ HS.out).mono ?_); rintro e w' ⟨rfl, hS⟩; have HS := hide hS; clear hS)
              | (go_at_call 19; (with_reducible refine (H11.out _ HS.out).mono ?_); rintro e w' ⟨rfl, hS⟩; have HS := hide hS; clear hS)
              | (go_at_call 21; (with_reducible refine (H12.out _ HS.out).mono ?_); rintro e w' ⟨rfl, hS⟩; have HS := hide hS; have c0 := hS.cell 0 rfl 0; have c1 := hS.cell 0 rfl 1; clear hS)
              | (go_at_call 12; (with_reducible refine (HD.out _).mono ?_); rintro e w' ⟨rfl, rfl⟩))
            go_ret2
            rw [HV.out, HN.out]
            exact ⟨rfl, HS.out.below⟩
          · have d0 : decide (86400 * pN l + 3600 * (pH l : Int) + 60 * (pI l : Int) + (pS l : Int) - pO l < 0) = false := by rw [← HN.out]; simp; omega
            have d1 : decide (253402300799 < 86400 * pN l + 3600 * (pH l : Int) + 60 * (pI l : Int) + (pS l : Int) - pO l) = true := by rw [← HN.out]; simp; omega
            have hv : parV l = .tuple #[.int .i64 0, .bool false] := by
              unfold parV
              rw [if_neg]
              rw [HO.out]
              simp; omega
            have HV := hide hv
            clear hv
            go_enter Tryd.func10, Tryd.ntmps10
            go_wp2_with (first
              | (go_at_call 19; (with_reducible refine (H1.out _ HS.out).mono ?_); rintro e w' ⟨rfl, hS⟩; have HS := hide hS; clear hS)
              | (go_at_call 20; (with_reducible refine (H2.out _ HS.out).mono ?_); rintro e w' ⟨rfl, hS⟩; have HS := hide hS; clear hS)
              | (go_at_call 19; (with_reducible refine (H3.out _ HS.out).mono ?_); rintro e w' ⟨rfl, hS⟩; have HS := hide hS; clear hS)
              | (go_at_call 20; (with_reducible refine (H4.out _ HS.out).mono ?_); rintro e w' ⟨rfl, hS⟩; have HS := hide hS; clear hS)
              | (go_at_call 19; (with_reducible refine (H5.out _ HS.out).mono ?_); rintro e w' ⟨rfl, hS⟩; have HS := hide hS; clear hS)
              | (go_at_call 20; (with_reducible refine (H6.out _ HS.out).mono ?_); rintro e w' ⟨rfl, hS⟩; have HS := hide hS; clear hS)
              | (go_at_call 19; (with_reducible refine (H7.out _ HS.out).mono ?_); rintro e w' ⟨rfl, hS⟩; have HS := hide hS; clear hS)
              | (go_at_call 20; (with_reducible refine (H8.out _ HS.out).mono ?_); rintro e w' ⟨rfl, hS⟩; have HS := hide hS; clear hS)
              | (go_at_call 19; (with_reducible refine (H9.out _ HS.out).mono ?_); rintro e w' ⟨rfl, hS⟩; have HS := hide hS; clear hS)
              | (go_at_call 20; (with_reducible refine (H10.out _ HS.out).mono ?_); rintro e w' ⟨rfl, hS⟩; have HS := hide hS; clear hS)
              | (go_at_call 19; (with_reducible refine (H11.out _ HS.out).mono ?_); rintro e w' ⟨rfl, hS⟩; have HS := hide hS; clear hS)
              | (go_at_call 21; (with_reducible refine (H12.out _ HS.out).mono ?_); rintro e w' ⟨rfl, hS⟩; have HS := hide hS; have c0 := hS.cell 0 rfl 0; have c1 := hS.cell 0 rfl 1; clear hS)
              | (go_at_call 12; (with_reducible refine (HD.out _).mono ?_); rintro e w' ⟨rfl, rfl⟩))
            go_ret2
            rw [HV.out]
            exact ⟨rfl, HS.out.below⟩
        · have d0 : decide (86400 * pN l + 3600 * (pH l : Int) + 60 * (pI l : Int) + (pS l : Int) - pO l < 0) = true := by rw [← HN.out]; simp; omega
          have hv : parV l = .tuple #[.int .i64 0, .bool false] := by
            unfold parV
            rw [if_neg]
            rw [HO.out]
            simp; omega
          have HV := hide hv
          clear hv
          go_enter Tryd.func10, Tryd.ntmps10
          go_wp2_with (first
            | (go_at_call 19; (with_reducible refine (H1.out _ HS.out).mono ?_); rintro e w' ⟨rfl, hS⟩; have HS := hide hS; clear hS)
            | (go_at_call 20; (with_reducible refine (H2.out _ HS.out).mono ?_); rintro e w' ⟨rfl, hS⟩; have HS := hide hS; clear hS)
            | (go_at_call 19; (with_reducible refine (H3.out _ HS.out).mono ?_); rintro e w' ⟨rfl, hS⟩; have HS := hide hS; clear hS)
            | (go_at_call 20; (with_reducible refine (H4.out _ HS.out).mono ?_); rintro e w' ⟨rfl, hS⟩; have HS := hide hS; clear hS)
            | (go_at_call 19; (with_reducible refine (H5.out _ HS.out).mono ?_); rintro e w' ⟨rfl, hS⟩; have HS := hide hS; clear hS)
            | (go_at_call 20; (with_reducible refine (H6.out _ HS.out).mono ?_); rintro e w' ⟨rfl, hS⟩; have HS := hide hS; clear hS)
            | (go_at_call 19; (with_reducible refine (H7.out _ HS.out).mono ?_); rintro e w' ⟨rfl, hS⟩; have HS := hide hS; clear hS)
            | (go_at_call 20; (with_reducible refine (H8.out _ HS.out).mono ?_); rintro e w' ⟨rfl, hS⟩; have HS := hide hS; clear hS)
            | (go_at_call 19; (with_reducible refine (H9.out _ HS.out).mono ?_); rintro e w' ⟨rfl, hS⟩; have HS := hide hS; clear hS)
            | (go_at_call 20; (with_reducible refine (H10.out _ HS.out).mono ?_); rintro e w' ⟨rfl, hS⟩; have HS := hide hS; clear hS)
            | (go_at_call 19; (with_reducible refine (H11.out _ HS.out).mono ?_); rintro e w' ⟨rfl, hS⟩; have HS := hide hS; clear hS)
            | (go_at_call 21; (with_reducible refine (H12.out _ HS.out).mono ?_); rintro e w' ⟨rfl, hS⟩; have HS := hide hS; have c0 := hS.cell 0 rfl 0; have c1 := hS.cell 0 rfl 1; clear hS)
            | (go_at_call 12; (with_reducible refine (HD.out _).mono ?_); rintro e w' ⟨rfl, rfl⟩))
          go_ret2
          rw [HV.out]
          exact ⟨rfl, HS.out.below⟩
      · have hqb : (pq12 l == []) = false := by simpa using hq
        have hv : parV l = .tuple #[.int .i64 0, .bool false] := by
          unfold parV
          rw [if_neg]
          rw [HO.out]
          simp [hq]
        have HV := hide hv
        clear hv
        go_enter Tryd.func10, Tryd.ntmps10
        go_wp2_with (first
          | (go_at_call 19; (with_reducible refine (H1.out _ HS.out).mono ?_); rintro e w' ⟨rfl, hS⟩; have HS := hide hS; clear hS)
          | (go_at_call 20; (with_reducible refine (H2.out _ HS.out).mono ?_); rintro e w' ⟨rfl, hS⟩; have HS := hide hS; clear hS)
          | (go_at_call 19; (with_reducible refine (H3.out _ HS.out).mono ?_); rintro e w' ⟨rfl, hS⟩; have HS := hide hS; clear hS)
          | (go_at_call 20; (with_reducible refine (H4.out _ HS.out).mono ?_); rintro e w' ⟨rfl, hS⟩; have HS := hide hS; clear hS)
          | (go_at_call 19; (with_reducible refine (H5.out _ HS.out).mono ?_); rintro e w' ⟨rfl, hS⟩; have HS := hide hS; clear hS)
          | (go_at_call 20; (with_reducible refine (H6.out _ HS.out).mono ?_); rintro e w' ⟨rfl, hS⟩; have HS := hide hS; clear hS)
          | (go_at_call 19; (with_reducible refine (H7.out _ HS.out).mono ?_); rintro e w' ⟨rfl, hS⟩; have HS := hide hS; clear hS)
          | (go_at_call 20; (with_reducible refine (H8.out _ HS.out).mono ?_); rintro e w' ⟨rfl, hS⟩; have HS := hide hS; clear hS)
          | (go_at_call 19; (with_reducible refine (H9.out _ HS.out).mono ?_); rintro e w' ⟨rfl, hS⟩; have HS := hide hS; clear hS)
          | (go_at_call 20; (with_reducible refine (H10.out _ HS.out).mono ?_); rintro e w' ⟨rfl, hS⟩; have HS := hide hS; clear hS)
          | (go_at_call 19; (with_reducible refine (H11.out _ HS.out).mono ?_); rintro e w' ⟨rfl, hS⟩; have HS := hide hS; clear hS)
          | (go_at_call 21; (with_reducible refine (H12.out _ HS.out).mono ?_); rintro e w' ⟨rfl, hS⟩; have HS := hide hS; have c0 := hS.cell 0 rfl 0; have c1 := hS.cell 0 rfl 1; clear hS)
          | (go_at_call 12; (with_reducible refine (HD.out _).mono ?_); rintro e w' ⟨rfl, rfl⟩))
        go_ret2
        rw [HV.out]
        exact ⟨rfl, HS.out.below⟩
    · rw [hF] at HO H12
      have hv : parV l = .tuple #[.int .i64 0, .bool false] := by
        unfold parV
        rw [if_neg]
        rw [HO.out]
        simp
      have HV := hide hv
      clear hv
      go_enter Tryd.func10, Tryd.ntmps10
      go_wp2_with (first
        | (go_at_call 19; (with_reducible refine (H1.out _ HS.out).mono ?_); rintro e w' ⟨rfl, hS⟩; have HS := hide hS; clear hS)
        | (go_at_call 20; (with_reducible refine (H2.out _ HS.out).mono ?_); rintro e w' ⟨rfl, hS⟩; have HS := hide hS; clear hS)
        | (go_at_call 19; (with_reducible refine (H3.out _ HS.out).mono ?_); rintro e w' ⟨rfl, hS⟩; have HS := hide hS; clear hS)
        | (go_at_call 20; (with_reducible refine (H4.out _ HS.out).mono ?_); rintro e w' ⟨rfl, hS⟩; have HS := hide hS; clear hS)
        | (go_at_call 19; (with_reducible refine (H5.out _ HS.out).mono ?_); rintro e w' ⟨rfl, hS⟩; have HS := hide hS; clear hS)
        | (go_at_call 20; (with_reducible refine (H6.out _ HS.out).mono ?_); rintro e w' ⟨rfl, hS⟩; have HS := hide hS; clear hS)
        | (go_at_call 19; (with_reducible refine (H7.out _ HS.out).mono ?_); rintro e w' ⟨rfl, hS⟩; have HS := hide hS; clear hS)
        | (go_at_call 20; (with_reducible refine (H8.out _ HS.out).mono ?_); rintro e w' ⟨rfl, hS⟩; have HS := hide hS; clear hS)
        | (go_at_call 19; (with_reducible refine (H9.out _ HS.out).mono ?_); rintro e w' ⟨rfl, hS⟩; have HS := hide hS; clear hS)
        | (go_at_call 20; (with_reducible refine (H10.out _ HS.out).mono ?_); rintro e w' ⟨rfl, hS⟩; have HS := hide hS; clear hS)
        | (go_at_call 19; (with_reducible refine (H11.out _ HS.out).mono ?_); rintro e w' ⟨rfl, hS⟩; have HS := hide hS; clear hS)
        | (go_at_call 21; (with_reducible refine (H12.out _ HS.out).mono ?_); rintro e w' ⟨rfl, hS⟩; have HS := hide hS; have c0 := hS.cell 0 rfl 0; have c1 := hS.cell 0 rfl 1; clear hS)
        | (go_at_call 12; (with_reducible refine (HD.out _).mono ?_); rintro e w' ⟨rfl, rfl⟩))
      go_ret2
      rw [HV.out]
      exact ⟨rfl, HS.out.below⟩
end Go.Proofs.YtbogjebipnmckaaDoor
