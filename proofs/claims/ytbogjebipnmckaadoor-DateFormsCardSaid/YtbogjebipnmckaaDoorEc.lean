/-
  Layer 8: the walks of DateOrder and DateBack.
-/
import Derived.Test.YtbogjebipnmckaaDoorEb
namespace Go.Proofs.YtbogjebipnmckaaDoor
open Go.RowKit
set_option linter.unusedSimpArgs false

theorem print_is {n : Int} {l : List UInt8} (h : printT n = l) (w : World) (ht : Tb w) : Calls Tryd.prog 14 #[.int .i64 n] w fun e w' => e = .returned (.string ⟨l.toArray⟩) ∧ Below w.heap.size w w' := by
  subst h
  rw [← strOf_eq]
  exact print_any n w ht
theorem parse_is {l : List UInt8} {v : Value} (h : parV l = v) (w : World) : Calls Tryd.prog 10 #[.string ⟨l.toArray⟩] w fun e w' => e = .returned v ∧ Below w.heap.size w w' := by
  subst h
  rw [← strOf_eq]
  exact parse_any l w
theorem printT_nat {N : Nat} (h : N < 253402300800) : printT (N : Int) = prt N := by
  unfold printT
  rw [if_pos ⟨by omega, by omega⟩]
  rfl
theorem printT_out {n : Int} (h : n < 0 ∨ 253402300799 < n) : printT n = [] := by
  unfold printT
  rw [if_neg (by omega)]
set_option maxRecDepth 100000 in
set_option maxHeartbeats 800000 in
theorem dateOrder_walk (a b : Int) (w : World) (ht : Tb w) : Calls Tryd.prog 7 #[.int .i64 a, .int .i64 b] w fun e w' => e = .returned (.bool true) ∧ Below w.heap.size w w' := by
  obtain ⟨A, eA⟩ : ∃ Y : Nat, IntKind.u64.wrap a % 253402300800 = (Y : Int) := ⟨(IntKind.u64.wrap a % 253402300800).toNat, by omega⟩
  obtain ⟨B, eB⟩ : ∃ Y : Nat, IntKind.u64.wrap b % 253402300800 = (Y : Int) := ⟨(IntKind.u64.wrap b % 253402300800).toNat, by omega⟩
  have hA : A < 253402300800 := by omega
  have hB : B < 253402300800 := by omega
  have tA : (IntKind.u64.wrap a).tmod 253402300800 = (A : Int) := by rw [Int.tmod_eq_emod_of_nonneg (by rw [IntKind.wrap_u64]; omega)]; exact eA
  have tB : (IntKind.u64.wrap b).tmod 253402300800 = (B : Int) := by rw [Int.tmod_eq_emod_of_nonneg (by rw [IntKind.wrap_u64]; omega)]; exact eB
  clear eA eB
  have q1 := prt_less hA hB
  have q2 : (prt A == prt B) = decide (A = B) := by
    rw [Bool.eq_iff_iff, beq_iff_eq, decide_eq_true_iff]
    exact ⟨prt_inj hA hB, fun h => by rw [h]⟩
  have l1 := prt_length hA
  have l2 := prt_length hB
  have HP := hide (fun W h => print_is (printT_nat hA) W h)
  have HQ := hide (fun W h => print_is (printT_nat hB) W h)
  generalize prt A = x at q1 q2 l1 HP
  generalize prt B = y at q1 q2 l2 HQ
  have HW := hide (fun W h => awake_any W h)
  have HT := hide ht
  have HB := hide (Below.refl w.heap.size w)
  clear ht
  have done : ∀ (d1 d2 : Bool), Op.bytesLess x y = d1 → decide (A < B) = d1 → (x == y) = d2 → ((A : Int) == (B : Int)) = d2 →
      Calls Tryd.prog 7 #[.int .i64 a, .int .i64 b] w fun e w' => e = .returned (.bool true) ∧ Below w.heap.size w w' := by
    intro d1 d2 e1 e2 e3 e4
    clear q1 q2
    cases d1 <;> cases d2
    all_goals
      go_enter Tryd.func7, Tryd.ntmps7
      go_wp2_with (first
        | (go_at_call 14; (with_reducible refine (HP.out _ HT.out).mono ?_); rintro e w' ⟨rfl, hb⟩; have HB := hide (HB.out.trans (hb.mono HB.out.size)); have HT := hide (HT.out.on hb); clear hb)
        | (go_at_call 14; (with_reducible refine (HQ.out _ HT.out).mono ?_); rintro e w' ⟨rfl, hb⟩; have HB := hide (HB.out.trans (hb.mono HB.out.size)); have HT := hide (HT.out.on hb); clear hb)
        | (go_at_call 9; (with_reducible refine (HW.out _ HT.out).mono ?_); rintro e w' ⟨rfl, hb⟩; have HB := hide (HB.out.trans (hb.mono HB.out.size)); clear hb))
      go_ret
      exact ⟨rfl, HB.out⟩
  refine done (decide (A < B)) (decide (A = B)) q1 ?_ q2 ?_
  · rfl
  · rw [Bool.eq_iff_iff, beq_iff_eq, decide_eq_true_iff]
    omega
theorem par_no {l : List UInt8} (h : ¬ parOk l = true) : parV l = .tuple #[.int .i64 0, .bool false] := by unfold parV; rw [if_neg h]
theorem par_yes {l : List UInt8} (h : parOk l = true) : ∃ X : Nat, X < 253402300800 ∧ parV l = .tuple #[.int .i64 (X : Int), .bool true] := by
  have := par_bd h
  refine ⟨(parN l).toNat, by omega, ?_⟩
  unfold parV
  rw [if_pos h]
  congr 4
  omega
set_option maxRecDepth 100000 in
set_option maxHeartbeats 800000 in
theorem dateBack_walk (a : Int) (s : List UInt8) (hs : s.length ≤ 9223372036854775807) (w : World) (ht : Tb w) : Calls Tryd.prog 4 #[.int .i64 a, .string ⟨s.toArray⟩] w fun e w' => e = .returned (.bool true) ∧ Below w.heap.size w w' := by
  obtain ⟨A, eA⟩ : ∃ Y : Nat, IntKind.u64.wrap a % 253402300800 = (Y : Int) := ⟨(IntKind.u64.wrap a % 253402300800).toNat, by omega⟩
  have hA : A < 253402300800 := by omega
  have tA : (IntKind.u64.wrap a).tmod 253402300800 = (A : Int) := by rw [Int.tmod_eq_emod_of_nonneg (by rw [IntKind.wrap_u64]; omega)]; exact eA
  clear eA
  have HW := hide (fun W h => awake_any W h)
  have HT := hide ht
  have HB := hide (Below.refl w.heap.size w)
  clear ht
  by_cases hl : s.length ≤ 300
  · have dl : decide (300 < (s.length : Int)) = false := by simp; omega
    have l1 := prt_length hA
    have HP := hide (fun W h => print_is (printT_nat hA) W h)
    have HR := hide (fun W => parse_is (par_back hA) W)
    generalize prt A = x at l1 HP HR
    by_cases hp : parOk s = true
    · obtain ⟨X, hX, ep⟩ := par_yes hp
      have HPS := hide (fun W => parse_is ep W)
      have HPX := hide (fun W h => print_is (printT_nat hX) W h)
      have HRX := hide (fun W => parse_is (par_back hX) W)
      generalize prt X = y at HPX HRX
      clear hp ep
      go_enter Tryd.func4, Tryd.ntmps4
      go_wp2_with (first
        | (go_at_call 14; (with_reducible refine (HP.out _ HT.out).mono ?_); rintro e w' ⟨rfl, hb⟩; have HB := hide (HB.out.trans (hb.mono HB.out.size)); have HT := hide (HT.out.on hb); clear hb)
        | (go_at_call 10; (with_reducible refine (HR.out _).mono ?_); rintro e w' ⟨rfl, hb⟩; have HB := hide (HB.out.trans (hb.mono HB.out.size)); have HT := hide (HT.out.on hb); clear hb)
        | (go_at_call 10; (with_reducible refine (HPS.out _).mono ?_); rintro e w' ⟨rfl, hb⟩; have HB := hide (HB.out.trans (hb.mono HB.out.size)); have HT := hide (HT.out.on hb); clear hb)
        | (go_at_call 14; (with_reducible refine (HPX.out _ HT.out).mono ?_); rintro e w' ⟨rfl, hb⟩; have HB := hide (HB.out.trans (hb.mono HB.out.size)); have HT := hide (HT.out.on hb); clear hb)
        | (go_at_call 10; (with_reducible refine (HRX.out _).mono ?_); rintro e w' ⟨rfl, hb⟩; have HB := hide (HB.out.trans (hb.mono HB.out.size)); have HT := hide (HT.out.on hb); clear hb)
        | (go_at_call 9; (with_reducible refine (HW.out _ HT.out).mono ?_); rintro e w' ⟨rfl, hb⟩; have HB := hide (HB.out.trans (hb.mono HB.out.size)); clear hb))
      go_ret
      exact ⟨rfl, HB.out⟩
    · have HPS := hide (fun W => parse_is (par_no hp) W)
      clear hp
      go_enter Tryd.func4, Tryd.ntmps4
      go_wp2_with (first
        | (go_at_call 14; (with_reducible refine (HP.out _ HT.out).mono ?_); rintro e w' ⟨rfl, hb⟩; have HB := hide (HB.out.trans (hb.mono HB.out.size)); have HT := hide (HT.out.on hb); clear hb)
        | (go_at_call 10; (with_reducible refine (HR.out _).mono ?_); rintro e w' ⟨rfl, hb⟩; have HB := hide (HB.out.trans (hb.mono HB.out.size)); have HT := hide (HT.out.on hb); clear hb)
        | (go_at_call 10; (with_reducible refine (HPS.out _).mono ?_); rintro e w' ⟨rfl, hb⟩; have HB := hide (HB.out.trans (hb.mono HB.out.size)); have HT := hide (HT.out.on hb); clear hb)
        | (go_at_call 9; (with_reducible refine (HW.out _ HT.out).mono ?_); rintro e w' ⟨rfl, hb⟩; have HB := hide (HB.out.trans (hb.mono HB.out.size)); clear hb))
      go_ret
      exact ⟨rfl, HB.out⟩
  · have dl : decide (300 < (s.length : Int)) = true := by simp; omega
    go_enter Tryd.func4, Tryd.ntmps4
    go_wp2_with (first
      | (go_at_call 9; (with_reducible refine (HW.out _ HT.out).mono ?_); rintro e w' ⟨rfl, hb⟩; have HB := hide (HB.out.trans (hb.mono HB.out.size)); clear hb))
    go_ret
    exact ⟨rfl, HB.out⟩
theorem dateBack_str (a : Int) (s : ByteArray) (hs : s.size ≤ maxLen) (w : World) (ht : Tb w) : Calls Tryd.prog 4 #[.int .i64 a, .string s] w fun e w' => e = .returned (.bool true) ∧ Below w.heap.size w w' := by
  have e : s = ⟨s.data.toList.toArray⟩ := by simp
  rw [e]
  refine dateBack_walk a s.data.toList ?_ w ht
  have : s.data.toList.length = s.size := by rw [Array.length_toList]; rfl
  rw [this]
  exact hs
end Go.Proofs.YtbogjebipnmckaaDoor
