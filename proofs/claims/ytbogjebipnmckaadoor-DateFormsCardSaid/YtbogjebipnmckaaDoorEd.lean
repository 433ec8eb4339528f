/-
  Layer 8: the walk of DateNone.
-/
import Derived.Test.YtbogjebipnmckaaDoorEc
namespace Go.Proofs.YtbogjebipnmckaaDoor
open Go.RowKit
set_option linter.unusedSimpArgs false

theorem run_cutTo {P : Program} {t : TypeId} (ht : P.underlying t = some .string) (l : List UInt8) (k : Nat) (hk : k ≤ l.length) (W : World) :
    (Instr.sliceAt t (.string (strOf l)) none (some (.int .i64 (k : Int))) none).run P W = .ok (.string (strOf (l.take k))) W := by
  rw [run_sliceAt_string W t _ _ _ _ ht, run_slice_string_to_if W t _ _ _ ht, if_pos ⟨by omega, by rw [strOf_size]; omega⟩]
  have e : (strOf l).extract 0 ((k : Int).toNat) = strOf (l.take k) := by
    rw [strOf_eq, strOf_eq]
    apply ByteArray.ext
    simp
  rw [e]
theorem run_cutFrom {P : Program} {t : TypeId} (ht : P.underlying t = some .string) (l : List UInt8) (k : Nat) (j : Int) (hj : j = (k : Int)) (hk : k ≤ l.length) (W : World) :
    (Instr.sliceAt t (.string (strOf l)) (some (.int .i64 j)) none none).run P W = .ok (.string (strOf (l.drop k))) W := by
  subst hj
  rw [run_sliceAt_string W t _ _ _ _ ht, run_slice_string_from_if W t _ _ _ ht, if_pos ⟨by omega, by rw [strOf_size]; omega⟩]
  have e : (strOf l).extract ((k : Int).toNat) (strOf l).size = strOf (l.drop k) := by
    rw [strOf_size, strOf_eq, strOf_eq]
    apply ByteArray.ext
    simp [List.take_of_length_le]
  rw [e]
theorem printS_is {n : Int} {l : List UInt8} (h : printT n = l) (w : World) (ht : Tb w) : Calls Tryd.prog 14 #[.int .i64 n] w fun e w' => e = .returned (.string (strOf l)) ∧ Below w.heap.size w w' := by
  subst h
  exact print_any n w ht
theorem parseS_is {l : List UInt8} {v : Value} (h : parV l = v) (w : World) : Calls Tryd.prog 10 #[.string (strOf l)] w fun e w' => e = .returned v ∧ Below w.heap.size w w' := by
  subst h
  exact parse_any l w
set_option maxRecDepth 100000 in
set_option maxHeartbeats 800000 in
theorem dateNone_walk (a at_ : Int) (w : World) (ht : Tb w) : Calls Tryd.prog 8 #[.int .i64 a, .int .i64 at_] w fun e w' => e = .returned (.bool true) ∧ Below w.heap.size w w' := by
  obtain ⟨A, eA⟩ : ∃ Y : Nat, IntKind.u64.wrap a % 253402300800 = (Y : Int) := ⟨(IntKind.u64.wrap a % 253402300800).toNat, by omega⟩
  obtain ⟨K, eK⟩ : ∃ Y : Nat, IntKind.u64.wrap at_ % 20 = (Y : Int) := ⟨(IntKind.u64.wrap at_ % 20).toNat, by omega⟩
  have hA : A < 253402300800 := by omega
  have hK : K < 20 := by omega
  have tA : (IntKind.u64.wrap a).tmod 253402300800 = (A : Int) := by rw [Int.tmod_eq_emod_of_nonneg (by rw [IntKind.wrap_u64]; omega)]; exact eA
  have tK : (IntKind.u64.wrap at_).tmod 20 = (K : Int) := by rw [Int.tmod_eq_emod_of_nonneg (by rw [IntKind.wrap_u64]; omega)]; exact eK
  clear eA eK
  have l1 := prt_length hA
  have HP := hide (fun W h => printS_is (printT_nat hA) W h)
  have HM := hide (fun W h => print_is (printT_out (n := -1 - (A : Int)) (.inl (by omega))) W h)
  have HO := hide (fun W h => print_is (printT_out (n := 253402300800 + (A : Int)) (.inr (by omega))) W h)
  generalize prt A = x at l1 HP
  have hL := fun W => run_lenS (P := Tryd.prog) (t := 9) (ty := 3) (by kernel_rfl) x W
  rw [l1] at hL
  have s1 := fun W => run_cutTo (P := Tryd.prog) (t := 9) (by kernel_rfl) x K (by omega) W
  have s2 := fun W => run_cutFrom (P := Tryd.prog) (t := 9) (by kernel_rfl) x (K + 1) ((K : Int) + 1) (by omega) (by omega) W
  have e1 : (x.take K).length = K := by rw [List.length_take]; omega
  have e2 : (x.drop (K + 1)).length = 19 - K := by rw [List.length_drop]; omega
  have P3 := hide (fun W => parseS_is (par_no_len (l := x.take K) (by omega) (by omega)) W)
  generalize x.take K = y at s1 e1 P3
  generalize x.drop (K + 1) = z at s2 e2
  have c1 := fun W => run_cat (P := Tryd.prog) y z (by omega) W
  have c2 := fun W => run_cat (P := Tryd.prog) x [48] (by simp; omega) W
  have P1 := hide (fun W => parseS_is (par_no_len (l := y ++ z) (by rw [List.length_append]; omega) (by rw [List.length_append]; omega)) W)
  have P2 := hide (fun W => parseS_is (par_no_len (l := x ++ [48]) (by rw [List.length_append]; simp; omega) (by rw [List.length_append]; simp; omega)) W)
  generalize y ++ z = yz at c1 P1
  generalize x ++ [48] = x0 at c2 P2
  rw [strOf_eq [48]] at c2
  have HW := hide (fun W h => awake_any W h)
  have HT := hide ht
  have HB := hide (Below.refl w.heap.size w)
  clear ht e1 e2 l1
  go_enter Tryd.func8, Tryd.ntmps8
  go_wp2_with (first
    | (go_at_call 14; (with_reducible refine (HP.out _ HT.out).mono ?_); rintro e w' ⟨rfl, hb⟩; have HB := hide (HB.out.trans (hb.mono HB.out.size)); have HT := hide (HT.out.on hb); clear hb))
  refine wp_region_T [(0, 1), (1, 1), (2, 1), (3, 1), (4, 1), (5, 1), (6, 1), (7, 1), (8, 2), (9, 1), (10, 1), (11, 1), (12, 1), (13, 1)] (by kernel_rfl) (by kernel_rfl) (fun _ _ _ _ h => h) ?_
  have HB := hide HB.out.drew
  have HT := hide (HT.out.on ((Below.refl _ _).drew))
  go_wp2_with (first
    | (refine wpT_nil ?_)   | ((with_reducible refine fromT_refl ?_); (try simp only [Act.put, List.setIfInBounds_toArray, List.set_cons_zero, List.set_cons_succ, List.getElem_toArray, List.getElem_cons_succ, List.getElem_cons_zero]))   | ((with_reducible refine fromT_mk (by assumption) ?_); (try simp only [Act.put, List.setIfInBounds_toArray, List.set_cons_zero, List.set_cons_succ, List.getElem_toArray, List.getElem_cons_succ, List.getElem_cons_zero]))   | (refine wpT_pure (v := ?_) rfl rfl ?_ ?_; rotate_left; (intro wx; go_simp; try go_bits) <;> (with_reducible rfl); (try simp only [Act.put, List.setIfInBounds_toArray, List.set_cons_zero, List.set_cons_succ, List.getElem_toArray, List.getElem_cons_succ, List.getElem_cons_zero]))   | (refine wpT_load (v := ?_) rfl rfl rfl ?_ ?_; rotate_left; (go_simp; try go_bits) <;> (with_reducible rfl); (try simp only [Act.put, List.setIfInBounds_toArray, List.set_cons_zero, List.set_cons_succ, List.getElem_toArray, List.getElem_cons_succ, List.getElem_cons_zero]))   | (refine wpT_read (v := ?_) rfl rfl ?_ ?_; rotate_left; (intro wx hx; go_simp; try go_bits) <;> (with_reducible rfl); (try simp only [Act.put, List.setIfInBounds_toArray, List.set_cons_zero, List.set_cons_succ, List.getElem_toArray, List.getElem_cons_succ, List.getElem_cons_zero]))   | (refine wpT_call rfl rfl ?_; intro K hK)   | (refine wpT_late rfl rfl ?_; intro K hK)   | (refine wpT_any rfl rfl ?_; intro K hK)   | (refine wpT_skip rfl rfl ?_; (try simp only [Act.put, List.setIfInBounds_toArray, List.set_cons_zero, List.set_cons_succ, List.getElem_toArray, List.getElem_cons_succ, List.getElem_cons_zero]))
    | (go_at_call 10; (with_reducible refine (P1.out _).mono ?_); rintro e w' ⟨rfl, hb⟩; have HB := hide (HB.out.trans (hb.mono HB.out.size)); have HT := hide (HT.out.on hb))
    | (go_at_call 10; (with_reducible refine (P2.out _).mono ?_); rintro e w' ⟨rfl, hb⟩; have HB := hide (HB.out.trans (hb.mono HB.out.size)); have HT := hide (HT.out.on hb))
    | (go_at_call 10; (with_reducible refine (P3.out _).mono ?_); rintro e w' ⟨rfl, hb⟩; have HB := hide (HB.out.trans (hb.mono HB.out.size)); have HT := hide (HT.out.on hb))
    | (go_at_call 14; (with_reducible refine (HM.out _ HT.out).mono ?_); rintro e w' ⟨rfl, hb⟩; have HB := hide (HB.out.trans (hb.mono HB.out.size)); have HT := hide (HT.out.on hb))
    | (go_at_call 14; (with_reducible refine (HO.out _ HT.out).mono ?_); rintro e w' ⟨rfl, hb⟩; have HB := hide (HB.out.trans (hb.mono HB.out.size)); have HT := hide (HT.out.on hb))
    | (go_at_call 9; (with_reducible refine (HW.out _ HT.out).mono ?_); rintro e w' ⟨rfl, hb⟩; have HB := hide (HB.out.trans (hb.mono HB.out.size)); clear hb))
  go_ret
  exact ⟨rfl, HB.out⟩
end Go.Proofs.YtbogjebipnmckaaDoor
