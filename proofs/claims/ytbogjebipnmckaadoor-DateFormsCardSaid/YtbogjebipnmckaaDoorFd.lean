/-
  Layer 8: the page's ParseDate.
-/
import Derived.Test.YtbogjebipnmckaaDoorFc
namespace Go.Proofs.YtbogjebipnmckaaDoor
open Go.RowKit
set_option linter.unusedSimpArgs false
set_option linter.unusedVariables false

theorem run_cutMid {P : Program} {t : TypeId} (ht : P.underlying t = some .string) (l x : List UInt8) (i j : Nat) (hi : i ≤ j) (hj : j ≤ l.length) (hx : (l.drop i).take (j - i) = x) (I J : Int) (eI : I = (i : Int)) (eJ : J = (j : Int)) (W : World) :
    (Instr.sliceAt t (.string (strOf l)) (some (.int .i64 I)) (some (.int .i64 J)) none).run P W = .ok (.string (strOf x)) W := by
  subst eI eJ hx
  rw [run_sliceAt_string W t _ _ _ _ ht, run_slice_string W t _ _ _ _ _ ht (by omega) (by omega) (by rw [strOf_size]; omega), strOf_eq, ByteArray.extract_mk, strOf_eq]
  rfl
theorem dayB_31 {y m d : Int} (h : dayB y m d = true) : 0 ≤ y ∧ y ≤ 9999 ∧ 1 ≤ m ∧ m ≤ 12 ∧ 1 ≤ d ∧ d ≤ 31 := by
  unfold dayB at h
  obtain ⟨a, b, c, e, f, g⟩ := of_decide_eq_true h
  have := moD_bd y (m - 1).toNat (by omega)
  omega
theorem parV_no {y m d h i s : Nat} {z : List UInt8} (h1 : y < 10000) (h2 : m < 100) (h3 : d < 100) (h4 : h < 100) (h5 : i < 100) (h6 : s < 100)
    (hno : ¬ (dayB (y : Int) (m : Int) (d : Int) = true ∧ h ≤ 23 ∧ i ≤ 59 ∧ s ≤ 59 ∧ offB z = true ∧ offR z = [] ∧ 0 ≤ 86400 * dayN (y : Int) (m : Int) (d : Int) + 3600 * (h : Int) + 60 * (i : Int) + (s : Int) - offV z ∧ 86400 * dayN (y : Int) (m : Int) (d : Int) + 3600 * (h : Int) + 60 * (i : Int) + (s : Int) - offV z ≤ 253402300799)) :
    parV (dtx y m d h i s z) = .tuple #[.int .i64 0, .bool false] := by
  refine par_no fun hok => hno ?_
  obtain ⟨a, b, c, d', e, f, g, j⟩ := dtx_parts y m d h i s z h1 h2 h3 h4 h5 h6
  generalize dtx y m d h i s z = L at a b c d' e f g j hok
  unfold parOk at hok
  simp only [Bool.and_eq_true, Bool.not_eq_true', decide_eq_true_eq] at hok
  obtain ⟨hk, hf, hq, hr⟩ := hok
  unfold pf12 at hf
  obtain ⟨hf, ho⟩ := or_no hf
  rw [g] at ho
  rw [j] at hf
  simp only [Bool.not_eq_false', Bool.and_eq_true, decide_eq_true_eq] at hf
  unfold pq12 at hq
  rw [g] at hq
  have hK : dayB (y : Int) (m : Int) (d : Int) = true := by
    unfold pK at hk
    rw [a, b, c] at hk
    exact hk
  have hN : pN L = dayN (y : Int) (m : Int) (d : Int) := by
    unfold pN
    rw [a, b, c, if_pos hK]
  have hO : pO L = offV z := by unfold pO; rw [g]
  have hP : parN L = 86400 * dayN (y : Int) (m : Int) (d : Int) + 3600 * (h : Int) + 60 * (i : Int) + (s : Int) - offV z := by
    unfold parN
    rw [hN, d', e, f, hO]
  rw [hP] at hr
  exact ⟨hK, hf.2.2.1, hf.2.2.2.1, hf.2.2.2.2, ho, hq, hr⟩
theorem dtx_cuts (y m d h i s : Nat) (z : List UInt8) (h1 : y < 10000) (W : World) {P : Program} {t : TypeId} (ht : P.underlying t = some .string) :
    (Instr.sliceAt t (.string (strOf (dtx y m d h i s z))) none (some (.int .i64 2)) none).run P W = .ok (.string (strOf (d2 (y / 100)))) W ∧
    (Instr.sliceAt t (.string (strOf (dtx y m d h i s z))) (some (.int .i64 2)) (some (.int .i64 4)) none).run P W = .ok (.string (strOf (d2 (y % 100)))) W ∧
    (Instr.sliceAt t (.string (strOf (dtx y m d h i s z))) (some (.int .i64 5)) (some (.int .i64 7)) none).run P W = .ok (.string (strOf (d2 m))) W ∧
    (Instr.sliceAt t (.string (strOf (dtx y m d h i s z))) (some (.int .i64 8)) (some (.int .i64 10)) none).run P W = .ok (.string (strOf (d2 d))) W ∧
    (Instr.sliceAt t (.string (strOf (dtx y m d h i s z))) (some (.int .i64 11)) (some (.int .i64 13)) none).run P W = .ok (.string (strOf (d2 h))) W ∧
    (Instr.sliceAt t (.string (strOf (dtx y m d h i s z))) (some (.int .i64 14)) (some (.int .i64 16)) none).run P W = .ok (.string (strOf (d2 i))) W ∧
    (Instr.sliceAt t (.string (strOf (dtx y m d h i s z))) (some (.int .i64 17)) (some (.int .i64 19)) none).run P W = .ok (.string (strOf (d2 s))) W ∧
    (Instr.sliceAt t (.string (strOf (dtx y m d h i s z))) (some (.int .i64 19)) none none).run P W = .ok (.string (strOf z)) W := by
  have hl := dtx_length y m d h i s z
  have e0 : dtx y m d h i s z = d2 (y / 100) ++ (d2 (y % 100) ++ (45 :: (d2 m ++ (45 :: (d2 d ++ (84 :: (d2 h ++ (58 :: (d2 i ++ (58 :: (d2 s ++ z))))))))))) := by
    unfold dtx
    rw [d4_two y h1, List.append_assoc]
  refine ⟨?_, ?_, ?_, ?_, ?_, ?_, ?_, ?_⟩
  · have := run_cutTo ht (dtx y m d h i s z) 2 (by omega) W
    have e : (dtx y m d h i s z).take 2 = d2 (y / 100) := by rw [e0]; rfl
    rw [e] at this
    exact this
  · exact run_cutMid ht _ _ 2 4 (by omega) (by omega) (by rw [e0]; rfl) 2 4 rfl rfl W
  · exact run_cutMid ht _ _ 5 7 (by omega) (by omega) (by rw [e0]; rfl) 5 7 rfl rfl W
  · exact run_cutMid ht _ _ 8 10 (by omega) (by omega) (by rw [e0]; rfl) 8 10 rfl rfl W
  · exact run_cutMid ht _ _ 11 13 (by omega) (by omega) (by rw [e0]; rfl) 11 13 rfl rfl W
  · exact run_cutMid ht _ _ 14 16 (by omega) (by omega) (by rw [e0]; rfl) 14 16 rfl rfl W
  · exact run_cutMid ht _ _ 17 19 (by omega) (by omega) (by rw [e0]; rfl) 17 19 rfl rfl W
  · have := run_cutFrom ht (dtx y m d h i s z) 19 19 rfl (by omega) W
    have e : (dtx y m d h i s z).drop 19 = z := by rw [e0]; rfl
    rw [e] at this
    exact this
theorem ofs_cuts (c : UInt8) (oh om : Nat) (W : World) {P : Program} {t : TypeId} (ht : P.underlying t = some .string) :
    (Instr.sliceAt t (.string (strOf (ofsT c oh om))) (some (.int .i64 1)) (some (.int .i64 3)) none).run P W = .ok (.string (strOf (d2 oh))) W ∧
    (Instr.sliceAt t (.string (strOf (ofsT c oh om))) (some (.int .i64 4)) (some (.int .i64 6)) none).run P W = .ok (.string (strOf (d2 om))) W ∧
    (Instr.index t (.string (strOf (ofsT c oh om))) (.int .i64 0)).run P W = .ok (.int .u8 (c.toNat : Int)) W := by
  have hl : (ofsT c oh om).length = 6 := rfl
  exact ⟨run_cutMid ht _ _ 1 3 (by omega) (by omega) rfl 1 3 rfl rfl W, run_cutMid ht _ _ 4 6 (by omega) (by omega) rfl 4 6 rfl rfl W, run_idxAt ht (ofsT c oh om) 0 c rfl W⟩
theorem shaped_c (l s : List UInt8) (b : Bool) (h : shL l s = b) (hl : l.length ≤ 9223372036854775807) (hs : s.length ≤ 100) (w : World) : Calls Tryd.prog 22 #[.string (strOf l), .string ⟨s.toArray⟩] w fun e w' => e = .returned (.bool b) ∧ Below w.heap.size w w' := by
  subst h
  rw [← strOf_eq]
  exact shaped_any l s hl hs w
set_option maxRecDepth 100000 in
set_option maxHeartbeats 1600000 in
theorem prA (y m dd h i s : Nat) (z : List UInt8) (b1 : y < 10000) (b2 : m < 100) (b3 : dd < 100) (b4 : h < 100) (b5 : i < 100) (b6 : s < 100) (hz : 1 ≤ z.length) (hzl : z.length ≤ 9000000000000000000) (hbad : ¬ (dayB (y : Int) (m : Int) (dd : Int) = true ∧ h ≤ 23 ∧ i ≤ 59 ∧ s ≤ 59)) (w : World) :
    Calls Tryd.prog 11 #[.string (strOf (dtx y m dd h i s z))] w fun e w' => e = .returned (parV (dtx y m dd h i s z)) ∧ Below w.heap.size w w' := by
  have hlen := dtx_length y m dd h i s z
  have hL := fun W => run_lenS (P := Tryd.prog) (t := 9) (ty := 3) (by kernel_rfl) (dtx y m dd h i s z) W
  have HB := hide (Below.refl w.heap.size w)
  have d : decide (((dtx y m dd h i s z).length : Int) < 20) = false := by simp; omega
  have d' : decide ((dtx y m dd h i s z).length < 20) = false := by simp; omega
  have c19 := fun W => run_cutTo (P := Tryd.prog) (t := 9) (by kernel_rfl) (dtx y m dd h i s z) 19 (by omega) W
  rw [show ((19 : Nat) : Int) = 19 from rfl] at c19
  have l19 : ((dtx y m dd h i s z).take 19).length ≤ 9223372036854775807 := by rw [List.length_take]; omega
  have HSH := hide (fun W => shaped_c _ shape19 true (shaped_dtx y m dd h i s z b1 b2 b3 b4 b5 b6) l19 (by decide) W)
  unfold shape19 at HSH
  have cu := fun W => dtx_cuts y m dd h i s z b1 W (P := Tryd.prog) (t := 9) (by kernel_rfl)
  have k1 := fun W => (cu W).1
  have k2 := fun W => (cu W).2.1
  have k3 := fun W => (cu W).2.2.1
  have k4 := fun W => (cu W).2.2.2.1
  have k5 := fun W => (cu W).2.2.2.2.1
  have k6 := fun W => (cu W).2.2.2.2.2.1
  have k7 := fun W => (cu W).2.2.2.2.2.2.1
  have k8 := fun W => (cu W).2.2.2.2.2.2.2
  clear cu
  have HNO := hide (fun hno => parV_no (z := z) b1 b2 b3 b4 b5 b6 hno)
  have HYES := hide (fun (n o : Int) hk hn e2 e3 e4 e5 e6 hb hr ho r => par_gen (z := z) (n := n) (o := o) b1 b2 b3 b4 b5 b6 hk hn e2 e3 e4 e5 e6 hb hr ho r)
  generalize (dtx y m dd h i s z).take 19 = l0 at c19 HSH
  generalize dtx y m dd h i s z = l at *
  have H1 := hide (fun W => twoR_any (y / 100) (by omega) W)
  have H2 := hide (fun W => twoR_any (y % 100) (by omega) W)
  have H3 := hide (fun W => twoR_any m (by omega) W)
  have H4 := hide (fun W => twoR_any dd (by omega) W)
  have H5 := hide (fun W => twoR_any h (by omega) W)
  have H6 := hide (fun W => twoR_any i (by omega) W)
  have H7 := hide (fun W => twoR_any s (by omega) W)
  generalize d2 (y / 100) = s1 at *
  generalize d2 (y % 100) = s2 at *
  obtain ⟨p1, hp1⟩ : ∃ p : Nat, p = y / 100 := ⟨_, rfl⟩
  obtain ⟨p2, hp2⟩ : ∃ p : Nat, p = y % 100 := ⟨_, rfl⟩
  have ey : (100 : Int) * (p1 : Int) + (p2 : Int) = (y : Int) := by omega
  have pb1 : p1 < 100 := by omega
  have pb2 : p2 < 100 := by omega
  rw [← hp1] at H1
  rw [← hp2] at H2
  clear hp1 hp2 l19 hlen
  generalize d2 m = s3 at *
  generalize d2 dd = s4 at *
  generalize d2 h = s5 at *
  generalize d2 i = s6 at *
  generalize d2 s = s7 at *
  have HV : Hid (parV l = .tuple #[.int .i64 0, .bool false]) := hide (HNO.out fun q => hbad ⟨q.1, q.2.1, q.2.2.1, q.2.2.2.1⟩)
  by_cases hk : dayB (y : Int) (m : Int) (dd : Int) = true
  · have hbad2 : 23 < h ∨ (h ≤ 23 ∧ 59 < i) ∨ (h ≤ 23 ∧ i ≤ 59 ∧ 59 < s) := by
      by_cases x1 : h ≤ 23
      · by_cases x2 : i ≤ 59
        · by_cases x3 : s ≤ 59
          · exact absurd ⟨hk, x1, x2, x3⟩ hbad
          · exact .inr (.inr ⟨x1, x2, by omega⟩)
        · exact .inr (.inl ⟨x1, by omega⟩)
      · exact .inl (by omega)
    have hv : dayV (y : Int) (m : Int) (dd : Int) = .tuple #[.int .i64 (dayN (y : Int) (m : Int) (dd : Int)), .bool true] := by unfold dayV; rw [if_pos hk]
    have HD := hide (fun W => dayR_is hv W)
    obtain ⟨n0, n1⟩ := dayN_bd hk
    obtain ⟨g0, g1, g2, g3, g4, g5⟩ := dayB_31 hk
    have HM := hide (show m ≤ 12 ∧ dd ≤ 31 by omega)
    have HKK := hide hk
    obtain ⟨n, hn⟩ : ∃ n, dayN (y : Int) (m : Int) (dd : Int) = n := ⟨_, rfl⟩
    rw [hn] at HD n0 n1 HNO
    have HNN := hide hn
    clear hv hn g0 g1 g2 g3 g4 g5 hk
    clear HNO HYES hbad
    rcases hbad2 with q | ⟨q, q'⟩ | ⟨q, q', q''⟩
    · have e1 : decide (23 < (h : Int)) = true := by simp; omega
      have e1' : decide (23 < h) = true := by simp; omega
      go_enter Tryd.func11, Tryd.ntmps11
      go_wp2_with (first
          | (go_at_call 22; (with_reducible refine (HSH.out _).mono ?_); rintro e w' ⟨rfl, hb⟩; have HB := hide (HB.out.trans (hb.mono HB.out.size)); clear hb))
      refine wp_region_T [(0, 1), (1, 1), (4, 1), (5, 1), (8, 1), (9, 1), (11, 1), (12, 1), (2, 2), (3, 1), (6, 2), (7, 1), (10, 2), (13, 2), (14, 2), (15, 1), (16, 1), (17, 1), (18, 1), (19, 1)] (by kernel_rfl) (by kernel_rfl) (fun _ _ _ _ h => h) ?_
      have HB := hide HB.out.drew
      go_wp2_with (first
          | (refine wpT_nil ?_)   | ((with_reducible refine fromT_refl ?_); (try simp only [Act.put, List.setIfInBounds_toArray, List.set_cons_zero, List.set_cons_succ, List.getElem_toArray, List.getElem_cons_succ, List.getElem_cons_zero]))   | ((with_reducible refine fromT_mk (by assumption) ?_); (try simp only [Act.put, List.setIfInBounds_toArray, List.set_cons_zero, List.set_cons_succ, List.getElem_toArray, List.getElem_cons_succ, List.getElem_cons_zero]))   | (refine wpT_pure (v := ?_) rfl rfl ?_ ?_; rotate_left; (intro wx; go_simp; try go_bits) <;> (with_reducible rfl); (try simp only [Act.put, List.setIfInBounds_toArray, List.set_cons_zero, List.set_cons_succ, List.getElem_toArray, List.getElem_cons_succ, List.getElem_cons_zero]))   | (refine wpT_load (v := ?_) rfl rfl rfl ?_ ?_; rotate_left; (go_simp; try go_bits) <;> (with_reducible rfl); (try simp only [Act.put, List.setIfInBounds_toArray, List.set_cons_zero, List.set_cons_succ, List.getElem_toArray, List.getElem_cons_succ, List.getElem_cons_zero]))   | (refine wpT_read (v := ?_) rfl rfl ?_ ?_; rotate_left; (intro wx hx; go_simp; try go_bits) <;> (with_reducible rfl); (try simp only [Act.put, List.setIfInBounds_toArray, List.set_cons_zero, List.set_cons_succ, List.getElem_toArray, List.getElem_cons_succ, List.getElem_cons_zero]))   | (refine wpT_call rfl rfl ?_; intro K hK)   | (refine wpT_late rfl rfl ?_; intro K hK)   | (refine wpT_any rfl rfl ?_; intro K hK)   | (refine wpT_skip rfl rfl ?_; (try simp only [Act.put, List.setIfInBounds_toArray, List.set_cons_zero, List.set_cons_succ, List.getElem_toArray, List.getElem_cons_succ, List.getElem_cons_zero]))
          | (go_at_call 23; (with_reducible refine (H1.out _).mono ?_); rintro e w' ⟨rfl, hb⟩; have HB := hide (HB.out.trans (hb.mono HB.out.size)))
          | (go_at_call 23; (with_reducible refine (H2.out _).mono ?_); rintro e w' ⟨rfl, hb⟩; have HB := hide (HB.out.trans (hb.mono HB.out.size)))
          | (go_at_call 23; (with_reducible refine (H3.out _).mono ?_); rintro e w' ⟨rfl, hb⟩; have HB := hide (HB.out.trans (hb.mono HB.out.size)))
          | (go_at_call 23; (with_reducible refine (H4.out _).mono ?_); rintro e w' ⟨rfl, hb⟩; have HB := hide (HB.out.trans (hb.mono HB.out.size)))
          | (go_at_call 23; (with_reducible refine (H5.out _).mono ?_); rintro e w' ⟨rfl, hb⟩; have HB := hide (HB.out.trans (hb.mono HB.out.size)))
          | (go_at_call 23; (with_reducible refine (H6.out _).mono ?_); rintro e w' ⟨rfl, hb⟩; have HB := hide (HB.out.trans (hb.mono HB.out.size)))
          | (go_at_call 23; (with_reducible refine (H7.out _).mono ?_); rintro e w' ⟨rfl, hb⟩; have HB := hide (HB.out.trans (hb.mono HB.out.size)))
          | (go_at_call 13; (with_reducible refine (HD.out _).mono ?_); rintro e w' ⟨rfl, rfl⟩))
      refine wp_region_T [(0, 1), (1, 1), (3, 1), (4, 1), (6, 1), (7, 1), (2, 2), (5, 2), (8, 2), (9, 1), (10, 1), (11, 1)] (by kernel_rfl) (by kernel_rfl) (fun _ _ _ _ h => h) ?_
      have HB := hide HB.out.drew
      go_wp2_with (first
          | (refine wpT_nil ?_)   | ((with_reducible refine fromT_refl ?_); (try simp only [Act.put, List.setIfInBounds_toArray, List.set_cons_zero, List.set_cons_succ, List.getElem_toArray, List.getElem_cons_succ, List.getElem_cons_zero]))   | ((with_reducible refine fromT_mk (by assumption) ?_); (try simp only [Act.put, List.setIfInBounds_toArray, List.set_cons_zero, List.set_cons_succ, List.getElem_toArray, List.getElem_cons_succ, List.getElem_cons_zero]))   | (refine wpT_pure (v := ?_) rfl rfl ?_ ?_; rotate_left; (intro wx; go_simp; try go_bits) <;> (with_reducible rfl); (try simp only [Act.put, List.setIfInBounds_toArray, List.set_cons_zero, List.set_cons_succ, List.getElem_toArray, List.getElem_cons_succ, List.getElem_cons_zero]))   | (refine wpT_load (v := ?_) rfl rfl rfl ?_ ?_; rotate_left; (go_simp; try go_bits) <;> (with_reducible rfl); (try simp only [Act.put, List.setIfInBounds_toArray, List.set_cons_zero, List.set_cons_succ, List.getElem_toArray, List.getElem_cons_succ, List.getElem_cons_zero]))   | (refine wpT_read (v := ?_) rfl rfl ?_ ?_; rotate_left; (intro wx hx; go_simp; try go_bits) <;> (with_reducible rfl); (try simp only [Act.put, List.setIfInBounds_toArray, List.set_cons_zero, List.set_cons_succ, List.getElem_toArray, List.getElem_cons_succ, List.getElem_cons_zero]))   | (refine wpT_call rfl rfl ?_; intro K hK)   | (refine wpT_late rfl rfl ?_; intro K hK)   | (refine wpT_any rfl rfl ?_; intro K hK)   | (refine wpT_skip rfl rfl ?_; (try simp only [Act.put, List.setIfInBounds_toArray, List.set_cons_zero, List.set_cons_succ, List.getElem_toArray, List.getElem_cons_succ, List.getElem_cons_zero]))
          | (go_at_call 23; (with_reducible refine (H1.out _).mono ?_); rintro e w' ⟨rfl, hb⟩; have HB := hide (HB.out.trans (hb.mono HB.out.size)))
          | (go_at_call 23; (with_reducible refine (H2.out _).mono ?_); rintro e w' ⟨rfl, hb⟩; have HB := hide (HB.out.trans (hb.mono HB.out.size)))
          | (go_at_call 23; (with_reducible refine (H3.out _).mono ?_); rintro e w' ⟨rfl, hb⟩; have HB := hide (HB.out.trans (hb.mono HB.out.size)))
          | (go_at_call 23; (with_reducible refine (H4.out _).mono ?_); rintro e w' ⟨rfl, hb⟩; have HB := hide (HB.out.trans (hb.mono HB.out.size)))
          | (go_at_call 23; (with_reducible refine (H5.out _).mono ?_); rintro e w' ⟨rfl, hb⟩; have HB := hide (HB.out.trans (hb.mono HB.out.size)))
          | (go_at_call 23; (with_reducible refine (H6.out _).mono ?_); rintro e w' ⟨rfl, hb⟩; have HB := hide (HB.out.trans (hb.mono HB.out.size)))
          | (go_at_call 23; (with_reducible refine (H7.out _).mono ?_); rintro e w' ⟨rfl, hb⟩; have HB := hide (HB.out.trans (hb.mono HB.out.size)))
          | (go_at_call 13; (with_reducible refine (HD.out _).mono ?_); rintro e w' ⟨rfl, rfl⟩))
      go_ret2
      rw [HV.out]
      exact ⟨rfl, HB.out⟩
    · have e1 : decide (23 < (h : Int)) = false := by simp; omega
      have e1' : decide (23 < h) = false := by simp; omega
      have e2 : decide (59 < (i : Int)) = true := by simp; omega
      have e2' : decide (59 < i) = true := by simp; omega
      go_enter Tryd.func11, Tryd.ntmps11
      go_wp2_with (first
          | (go_at_call 22; (with_reducible refine (HSH.out _).mono ?_); rintro e w' ⟨rfl, hb⟩; have HB := hide (HB.out.trans (hb.mono HB.out.size)); clear hb))
      refine wp_region_T [(0, 1), (1, 1), (4, 1), (5, 1), (8, 1), (9, 1), (11, 1), (12, 1), (2, 2), (3, 1), (6, 2), (7, 1), (10, 2), (13, 2), (14, 2), (15, 1), (16, 1), (17, 1), (18, 1), (19, 1)] (by kernel_rfl) (by kernel_rfl) (fun _ _ _ _ h => h) ?_
      have HB := hide HB.out.drew
      go_wp2_with (first
          | (refine wpT_nil ?_)   | ((with_reducible refine fromT_refl ?_); (try simp only [Act.put, List.setIfInBounds_toArray, List.set_cons_zero, List.set_cons_succ, List.getElem_toArray, List.getElem_cons_succ, List.getElem_cons_zero]))   | ((with_reducible refine fromT_mk (by assumption) ?_); (try simp only [Act.put, List.setIfInBounds_toArray, List.set_cons_zero, List.set_cons_succ, List.getElem_toArray, List.getElem_cons_succ, List.getElem_cons_zero]))   | (refine wpT_pure (v := ?_) rfl rfl ?_ ?_; rotate_left; (intro wx; go_simp; try go_bits) <;> (with_reducible rfl); (try simp only [Act.put, List.setIfInBounds_toArray, List.set_cons_zero, List.set_cons_succ, List.getElem_toArray, List.getElem_cons_succ, List.getElem_cons_zero]))   | (refine wpT_load (v := ?_) rfl rfl rfl ?_ ?_; rotate_left; (go_simp; try go_bits) <;> (with_reducible rfl); (try simp only [Act.put, List.setIfInBounds_toArray, List.set_cons_zero, List.set_cons_succ, List.getElem_toArray, List.getElem_cons_succ, List.getElem_cons_zero]))   | (refine wpT_read (v := ?_) rfl rfl ?_ ?_; rotate_left; (intro wx hx; go_simp; try go_bits) <;> (with_reducible rfl); (try simp only [Act.put, List.setIfInBounds_toArray, List.set_cons_zero, List.set_cons_succ, List.getElem_toArray, List.getElem_cons_succ, List.getElem_cons_zero]))   | (refine wpT_call rfl rfl ?_; intro K hK)   | (refine wpT_late rfl rfl ?_; intro K hK)   | (refine wpT_any rfl rfl ?_; intro K hK)   | (refine wpT_skip rfl rfl ?_; (try simp only [Act.put, List.setIfInBounds_toArray, List.set_cons_zero, List.set_cons_succ, List.getElem_toArray, List.getElem_cons_succ, List.getElem_cons_zero]))
          | (go_at_call 23; (with_reducible refine (H1.out _).mono ?_); rintro e w' ⟨rfl, hb⟩; have HB := hide (HB.out.trans (hb.mono HB.out.size)))
          | (go_at_call 23; (with_reducible refine (H2.out _).mono ?_); rintro e w' ⟨rfl, hb⟩; have HB := hide (HB.out.trans (hb.mono HB.out.size)))
          | (go_at_call 23; (with_reducible refine (H3.out _).mono ?_); rintro e w' ⟨rfl, hb⟩; have HB := hide (HB.out.trans (hb.mono HB.out.size)))
          | (go_at_call 23; (with_reducible refine (H4.out _).mono ?_); rintro e w' ⟨rfl, hb⟩; have HB := hide (HB.out.trans (hb.mono HB.out.size)))
          | (go_at_call 23; (with_reducible refine (H5.out _).mono ?_); rintro e w' ⟨rfl, hb⟩; have HB := hide (HB.out.trans (hb.mono HB.out.size)))
          | (go_at_call 23; (with_reducible refine (H6.out _).mono ?_); rintro e w' ⟨rfl, hb⟩; have HB := hide (HB.out.trans (hb.mono HB.out.size)))
          | (go_at_call 23; (with_reducible refine (H7.out _).mono ?_); rintro e w' ⟨rfl, hb⟩; have HB := hide (HB.out.trans (hb.mono HB.out.size)))
          | (go_at_call 13; (with_reducible refine (HD.out _).mono ?_); rintro e w' ⟨rfl, rfl⟩))
      refine wp_region_T [(0, 1), (1, 1), (3, 1), (4, 1), (6, 1), (7, 1), (2, 2), (5, 2), (8, 2), (9, 1), (10, 1), (11, 1)] (by kernel_rfl) (by kernel_rfl) (fun _ _ _ _ h => h) ?_
      have HB := hide HB.out.drew
      go_wp2_with (first
          | (refine wpT_nil ?_)   | ((with_reducible refine fromT_refl ?_); (try simp only [Act.put, List.setIfInBounds_toArray, List.set_cons_zero, List.set_cons_succ, List.getElem_toArray, List.getElem_cons_succ, List.getElem_cons_zero]))   | ((with_reducible refine fromT_mk (by assumption) ?_); (try simp only [Act.put, List.setIfInBounds_toArray, List.set_cons_zero, List.set_cons_succ, List.getElem_toArray, List.getElem_cons_succ, List.getElem_cons_zero]))   | (refine wpT_pure (v := ?_) rfl rfl ?_ ?_; rotate_left; (intro wx; go_simp; try go_bits) <;> (with_reducible rfl); (try simp only [Act.put, List.setIfInBounds_toArray, List.set_cons_zero, List.set_cons_succ, List.getElem_toArray, List.getElem_cons_succ, List.getElem_cons_zero]))   | (refine wpT_load (v := ?_) rfl rfl rfl ?_ ?_; rotate_left; (go_simp; try go_bits) <;> (with_reducible rfl); (try simp only [Act.put, List.setIfInBounds_toArray, List.set_cons_zero, List.set_cons_succ, List.getElem_toArray, List.getElem_cons_succ, List.getElem_cons_zero]))   | (refine wpT_read (v := ?_) rfl rfl ?_ ?_; rotate_left; (intro wx hx; go_simp; try go_bits) <;> (with_reducible rfl); (try simp only [Act.put, List.setIfInBounds_toArray, List.set_cons_zero, List.set_cons_succ, List.getElem_toArray, List.getElem_cons_succ, List.getElem_cons_zero]))   | (refine wpT_call rfl rfl ?_; intro K hK)   | (refine wpT_late rfl rfl ?_; intro K hK)   | (refine wpT_any rfl rfl ?_; intro K hK)   | (refine wpT_skip rfl rfl ?_; (try simp only [Act.put, List.setIfInBounds_toArray, List.set_cons_zero, List.set_cons_succ, List.getElem_toArray, List.getElem_cons_succ, List.getElem_cons_zero]))
          | (go_at_call 23; (with_reducible refine (H1.out _).mono ?_); rintro e w' ⟨rfl, hb⟩; have HB := hide (HB.out.trans (hb.mono HB.out.size)))
          | (go_at_call 23; (with_reducible refine (H2.out _).mono ?_); rintro e w' ⟨rfl, hb⟩; have HB := hide (HB.out.trans (hb.mono HB.out.size)))
          | (go_at_call 23; (with_reducible refine (H3.out _).mono ?_); rintro e w' ⟨rfl, hb⟩; have HB := hide (HB.out.trans (hb.mono HB.out.size)))
          | (go_at_call 23; (with_reducible refine (H4.out _).mono ?_); rintro e w' ⟨rfl, hb⟩; have HB := hide (HB.out.trans (hb.mono HB.out.size)))
          | (go_at_call 23; (with_reducible refine (H5.out _).mono ?_); rintro e w' ⟨rfl, hb⟩; have HB := hide (HB.out.trans (hb.mono HB.out.size)))
          | (go_at_call 23; (with_reducible refine (H6.out _).mono ?_); rintro e w' ⟨rfl, hb⟩; have HB := hide (HB.out.trans (hb.mono HB.out.size)))
          | (go_at_call 23; (with_reducible refine (H7.out _).mono ?_); rintro e w' ⟨rfl, hb⟩; have HB := hide (HB.out.trans (hb.mono HB.out.size)))
          | (go_at_call 13; (with_reducible refine (HD.out _).mono ?_); rintro e w' ⟨rfl, rfl⟩))
      go_ret2
      rw [HV.out]
      exact ⟨rfl, HB.out⟩
    · have e1 : decide (23 < (h : Int)) = false := by simp; omega
      have e1' : decide (23 < h) = false := by simp; omega
      have e2 : decide (59 < (i : Int)) = false := by simp; omega
      have e2' : decide (59 < i) = false := by simp; omega
      have e3 : decide (59 < (s : Int)) = true := by simp; omega
      have e3' : decide (59 < s) = true := by simp; omega
      go_enter Tryd.func11, Tryd.ntmps11
      go_wp2_with (first
          | (go_at_call 22; (with_reducible refine (HSH.out _).mono ?_); rintro e w' ⟨rfl, hb⟩; have HB := hide (HB.out.trans (hb.mono HB.out.size)); clear hb))
      refine wp_region_T [(0, 1), (1, 1), (4, 1), (5, 1), (8, 1), (9, 1), (11, 1), (12, 1), (2, 2), (3, 1), (6, 2), (7, 1), (10, 2), (13, 2), (14, 2), (15, 1), (16, 1), (17, 1), (18, 1), (19, 1)] (by kernel_rfl) (by kernel_rfl) (fun _ _ _ _ h => h) ?_
      have HB := hide HB.out.drew
      go_wp2_with (first
          | (refine wpT_nil ?_)   | ((with_reducible refine fromT_refl ?_); (try simp only [Act.put, List.setIfInBounds_toArray, List.set_cons_zero, List.set_cons_succ, List.getElem_toArray, List.getElem_cons_succ, List.getElem_cons_zero]))   | ((with_reducible refine fromT_mk (by assumption) ?_); (try simp only [Act.put, List.setIfInBounds_toArray, List.set_cons_zero, List.set_cons_succ, List.getElem_toArray, List.getElem_cons_succ, List.getElem_cons_zero]))   | (refine wpT_pure (v := ?_) rfl rfl ?_ ?_; rotate_left; (intro wx; go_simp; try go_bits) <;> (with_reducible rfl); (try simp only [Act.put, List.setIfInBounds_toArray, List.set_cons_zero, List.set_cons_succ, List.getElem_toArray, List.getElem_cons_succ, List.getElem_cons_zero]))   | (refine wpT_load (v := ?_) rfl rfl rfl ?_ ?_; rotate_left; (go_simp; try go_bits) <;> (with_reducible rfl); (try simp only [Act.put, List.setIfInBounds_toArray, List.set_cons_zero, List.set_cons_succ, List.getElem_toArray, List.getElem_cons_succ, List.getElem_cons_zero]))   | (refine wpT_read (v := ?_) rfl rfl ?_ ?_; rotate_left; (intro wx hx; go_simp; try go_bits) <;> (with_reducible rfl); (try simp only [Act.put, List.setIfInBounds_toArray, List.set_cons_zero, List.set_cons_succ, List.getElem_toArray, List.getElem_cons_succ, List.getElem_cons_zero]))   | (refine wpT_call rfl rfl ?_; intro K hK)   | (refine wpT_late rfl rfl ?_; intro K hK)   | (refine wpT_any rfl rfl ?_; intro K hK)   | (refine wpT_skip rfl rfl ?_; (try simp only [Act.put, List.setIfInBounds_toArray, List.set_cons_zero, List.set_cons_succ, List.getElem_toArray, List.getElem_cons_succ, List.getElem_cons_zero]))
          | (go_at_call 23; (with_reducible refine (H1.out _).mono ?_); rintro e w' ⟨rfl, hb⟩; have HB := hide (HB.out.trans (hb.mono HB.out.size)))
          | (go_at_call 23; (with_reducible refine (H2.out _).mono ?_); rintro e w' ⟨rfl, hb⟩; have HB := hide (HB.out.trans (hb.mono HB.out.size)))
          | (go_at_call 23; (with_reducible refine (H3.out _).mono ?_); rintro e w' ⟨rfl, hb⟩; have HB := hide (HB.out.trans (hb.mono HB.out.size)))
          | (go_at_call 23; (with_reducible refine (H4.out _).mono ?_); rintro e w' ⟨rfl, hb⟩; have HB := hide (HB.out.trans (hb.mono HB.out.size)))
          | (go_at_call 23; (with_reducible refine (H5.out _).mono ?_); rintro e w' ⟨rfl, hb⟩; have HB := hide (HB.out.trans (hb.mono HB.out.size)))
          | (go_at_call 23; (with_reducible refine (H6.out _).mono ?_); rintro e w' ⟨rfl, hb⟩; have HB := hide (HB.out.trans (hb.mono HB.out.size)))
          | (go_at_call 23; (with_reducible refine (H7.out _).mono ?_); rintro e w' ⟨rfl, hb⟩; have HB := hide (HB.out.trans (hb.mono HB.out.size)))
          | (go_at_call 13; (with_reducible refine (HD.out _).mono ?_); rintro e w' ⟨rfl, rfl⟩))
      refine wp_region_T [(0, 1), (1, 1), (3, 1), (4, 1), (6, 1), (7, 1), (2, 2), (5, 2), (8, 2), (9, 1), (10, 1), (11, 1)] (by kernel_rfl) (by kernel_rfl) (fun _ _ _ _ h => h) ?_
      have HB := hide HB.out.drew
      go_wp2_with (first
          | (refine wpT_nil ?_)   | ((with_reducible refine fromT_refl ?_); (try simp only [Act.put, List.setIfInBounds_toArray, List.set_cons_zero, List.set_cons_succ, List.getElem_toArray, List.getElem_cons_succ, List.getElem_cons_zero]))   | ((with_reducible refine fromT_mk (by assumption) ?_); (try simp only [Act.put, List.setIfInBounds_toArray, List.set_cons_zero, List.set_cons_succ, List.getElem_toArray, List.getElem_cons_succ, List.getElem_cons_zero]))   | (refine wpT_pure (v := ?_) rfl rfl ?_ ?_; rotate_left; (intro wx; go_simp; try go_bits) <;> (with_reducible rfl); (try simp only [Act.put, List.setIfInBounds_toArray, List.set_cons_zero, List.set_cons_succ, List.getElem_toArray, List.getElem_cons_succ, List.getElem_cons_zero]))   | (refine wpT_load (v := ?_) rfl rfl rfl ?_ ?_; rotate_left; (go_simp; try go_bits) <;> (with_reducible rfl); (try simp only [Act.put, List.setIfInBounds_toArray, List.set_cons_zero, List.set_cons_succ, List.getElem_toArray, List.getElem_cons_succ, List.getElem_cons_zero]))   | (refine wpT_read (v := ?_) rfl rfl ?_ ?_; rotate_left; (intro wx hx; go_simp; try go_bits) <;> (with_reducible rfl); (try simp only [Act.put, List.setIfInBounds_toArray, List.set_cons_zero, List.set_cons_succ, List.getElem_toArray, List.getElem_cons_succ, List.getElem_cons_zero]))   | (refine wpT_call rfl rfl ?_; intro K hK)   | (refine wpT_late rfl rfl ?_; intro K hK)   | (refine wpT_any rfl rfl ?_; intro K hK)   | (refine wpT_skip rfl rfl ?_; (try simp only [Act.put, List.setIfInBounds_toArray, List.set_cons_zero, List.set_cons_succ, List.getElem_toArray, List.getElem_cons_succ, List.getElem_cons_zero]))
          | (go_at_call 23; (with_reducible refine (H1.out _).mono ?_); rintro e w' ⟨rfl, hb⟩; have HB := hide (HB.out.trans (hb.mono HB.out.size)))
          | (go_at_call 23; (with_reducible refine (H2.out _).mono ?_); rintro e w' ⟨rfl, hb⟩; have HB := hide (HB.out.trans (hb.mono HB.out.size)))
          | (go_at_call 23; (with_reducible refine (H3.out _).mono ?_); rintro e w' ⟨rfl, hb⟩; have HB := hide (HB.out.trans (hb.mono HB.out.size)))
          | (go_at_call 23; (with_reducible refine (H4.out _).mono ?_); rintro e w' ⟨rfl, hb⟩; have HB := hide (HB.out.trans (hb.mono HB.out.size)))
          | (go_at_call 23; (with_reducible refine (H5.out _).mono ?_); rintro e w' ⟨rfl, hb⟩; have HB := hide (HB.out.trans (hb.mono HB.out.size)))
          | (go_at_call 23; (with_reducible refine (H6.out _).mono ?_); rintro e w' ⟨rfl, hb⟩; have HB := hide (HB.out.trans (hb.mono HB.out.size)))
          | (go_at_call 23; (with_reducible refine (H7.out _).mono ?_); rintro e w' ⟨rfl, hb⟩; have HB := hide (HB.out.trans (hb.mono HB.out.size)))
          | (go_at_call 13; (with_reducible refine (HD.out _).mono ?_); rintro e w' ⟨rfl, rfl⟩))
      go_ret2
      rw [HV.out]
      exact ⟨rfl, HB.out⟩
  · have hkf : dayB (y : Int) (m : Int) (dd : Int) = false := by simpa using hk
    have hv : dayV (y : Int) (m : Int) (dd : Int) = .tuple #[.int .i64 0, .bool false] := by unfold dayV; rw [hkf]; rfl
    have HD := hide (fun W => dayR_is hv W)
    clear hv hkf hk HNO HYES hbad
    go_enter Tryd.func11, Tryd.ntmps11
    go_wp2_with (first
        | (go_at_call 22; (with_reducible refine (HSH.out _).mono ?_); rintro e w' ⟨rfl, hb⟩; have HB := hide (HB.out.trans (hb.mono HB.out.size)); clear hb))
    refine wp_region_T [(0, 1), (1, 1), (4, 1), (5, 1), (8, 1), (9, 1), (11, 1), (12, 1), (2, 2), (3, 1), (6, 2), (7, 1), (10, 2), (13, 2), (14, 2), (15, 1), (16, 1), (17, 1), (18, 1), (19, 1)] (by kernel_rfl) (by kernel_rfl) (fun _ _ _ _ h => h) ?_
    have HB := hide HB.out.drew
    go_wp2_with (first
        | (refine wpT_nil ?_)   | ((with_reducible refine fromT_refl ?_); (try simp only [Act.put, List.setIfInBounds_toArray, List.set_cons_zero, List.set_cons_succ, List.getElem_toArray, List.getElem_cons_succ, List.getElem_cons_zero]))   | ((with_reducible refine fromT_mk (by assumption) ?_); (try simp only [Act.put, List.setIfInBounds_toArray, List.set_cons_zero, List.set_cons_succ, List.getElem_toArray, List.getElem_cons_succ, List.getElem_cons_zero]))   | (refine wpT_pure (v := ?_) rfl rfl ?_ ?_; rotate_left; (intro wx; go_simp; try go_bits) <;> (with_reducible rfl); (try simp only [Act.put, List.setIfInBounds_toArray, List.set_cons_zero, List.set_cons_succ, List.getElem_toArray, List.getElem_cons_succ, List.getElem_cons_zero]))   | (refine wpT_load (v := ?_) rfl rfl rfl ?_ ?_; rotate_left; (go_simp; try go_bits) <;> (with_reducible rfl); (try simp only [Act.put, List.setIfInBounds_toArray, List.set_cons_zero, List.set_cons_succ, List.getElem_toArray, List.getElem_cons_succ, List.getElem_cons_zero]))   | (refine wpT_read (v := ?_) rfl rfl ?_ ?_; rotate_left; (intro wx hx; go_simp; try go_bits) <;> (with_reducible rfl); (try simp only [Act.put, List.setIfInBounds_toArray, List.set_cons_zero, List.set_cons_succ, List.getElem_toArray, List.getElem_cons_succ, List.getElem_cons_zero]))   | (refine wpT_call rfl rfl ?_; intro K hK)   | (refine wpT_late rfl rfl ?_; intro K hK)   | (refine wpT_any rfl rfl ?_; intro K hK)   | (refine wpT_skip rfl rfl ?_; (try simp only [Act.put, List.setIfInBounds_toArray, List.set_cons_zero, List.set_cons_succ, List.getElem_toArray, List.getElem_cons_succ, List.getElem_cons_zero]))
        | (go_at_call 23; (with_reducible refine (H1.out _).mono ?_); rintro e w' ⟨rfl, hb⟩; have HB := hide (HB.out.trans (hb.mono HB.out.size)))
        | (go_at_call 23; (with_reducible refine (H2.out _).mono ?_); rintro e w' ⟨rfl, hb⟩; have HB := hide (HB.out.trans (hb.mono HB.out.size)))
        | (go_at_call 23; (with_reducible refine (H3.out _).mono ?_); rintro e w' ⟨rfl, hb⟩; have HB := hide (HB.out.trans (hb.mono HB.out.size)))
        | (go_at_call 23; (with_reducible refine (H4.out _).mono ?_); rintro e w' ⟨rfl, hb⟩; have HB := hide (HB.out.trans (hb.mono HB.out.size)))
        | (go_at_call 23; (with_reducible refine (H5.out _).mono ?_); rintro e w' ⟨rfl, hb⟩; have HB := hide (HB.out.trans (hb.mono HB.out.size)))
        | (go_at_call 23; (with_reducible refine (H6.out _).mono ?_); rintro e w' ⟨rfl, hb⟩; have HB := hide (HB.out.trans (hb.mono HB.out.size)))
        | (go_at_call 23; (with_reducible refine (H7.out _).mono ?_); rintro e w' ⟨rfl, hb⟩; have HB := hide (HB.out.trans (hb.mono HB.out.size)))
        | (go_at_call 13; (with_reducible refine (HD.out _).mono ?_); rintro e w' ⟨rfl, rfl⟩))
    refine wp_region_T [(0, 1), (1, 1), (3, 1), (4, 1), (6, 1), (7, 1), (2, 2), (5, 2), (8, 2), (9, 1), (10, 1), (11, 1)] (by kernel_rfl) (by kernel_rfl) (fun _ _ _ _ h => h) ?_
    have HB := hide HB.out.drew
    go_wp2_with (first
        | (refine wpT_nil ?_)   | ((with_reducible refine fromT_refl ?_); (try simp only [Act.put, List.setIfInBounds_toArray, List.set_cons_zero, List.set_cons_succ, List.getElem_toArray, List.getElem_cons_succ, List.getElem_cons_zero]))   | ((with_reducible refine fromT_mk (by assumption) ?_); (try simp only [Act.put, List.setIfInBounds_toArray, List.set_cons_zero, List.set_cons_succ, List.getElem_toArray, List.getElem_cons_succ, List.getElem_cons_zero]))   | (refine wpT_pure (v := ?_) rfl rfl ?_ ?_; rotate_left; (intro wx; go_simp; try go_bits) <;> (with_reducible rfl); (try simp only [Act.put, List.setIfInBounds_toArray, List.set_cons_zero, List.set_cons_succ, List.getElem_toArray, List.getElem_cons_succ, List.getElem_cons_zero]))   | (refine wpT_load (v := ?_) rfl rfl rfl ?_ ?_; rotate_left; (go_simp; try go_bits) <;> (with_reducible rfl); (try simp only [Act.put, List.setIfInBounds_toArray, List.set_cons_zero, List.set_cons_succ, List.getElem_toArray, List.getElem_cons_succ, List.getElem_cons_zero]))   | (refine wpT_read (v := ?_) rfl rfl ?_ ?_; rotate_left; (intro wx hx; go_simp; try go_bits) <;> (with_reducible rfl); (try simp only [Act.put, List.setIfInBounds_toArray, List.set_cons_zero, List.set_cons_succ, List.getElem_toArray, List.getElem_cons_succ, List.getElem_cons_zero]))   | (refine wpT_call rfl rfl ?_; intro K hK)   | (refine wpT_late rfl rfl ?_; intro K hK)   | (refine wpT_any rfl rfl ?_; intro K hK)   | (refine wpT_skip rfl rfl ?_; (try simp only [Act.put, List.setIfInBounds_toArray, List.set_cons_zero, List.set_cons_succ, List.getElem_toArray, List.getElem_cons_succ, List.getElem_cons_zero]))
        | (go_at_call 23; (with_reducible refine (H1.out _).mono ?_); rintro e w' ⟨rfl, hb⟩; have HB := hide (HB.out.trans (hb.mono HB.out.size)))
        | (go_at_call 23; (with_reducible refine (H2.out _).mono ?_); rintro e w' ⟨rfl, hb⟩; have HB := hide (HB.out.trans (hb.mono HB.out.size)))
        | (go_at_call 23; (with_reducible refine (H3.out _).mono ?_); rintro e w' ⟨rfl, hb⟩; have HB := hide (HB.out.trans (hb.mono HB.out.size)))
        | (go_at_call 23; (with_reducible refine (H4.out _).mono ?_); rintro e w' ⟨rfl, hb⟩; have HB := hide (HB.out.trans (hb.mono HB.out.size)))
        | (go_at_call 23; (with_reducible refine (H5.out _).mono ?_); rintro e w' ⟨rfl, hb⟩; have HB := hide (HB.out.trans (hb.mono HB.out.size)))
        | (go_at_call 23; (with_reducible refine (H6.out _).mono ?_); rintro e w' ⟨rfl, hb⟩; have HB := hide (HB.out.trans (hb.mono HB.out.size)))
        | (go_at_call 23; (with_reducible refine (H7.out _).mono ?_); rintro e w' ⟨rfl, hb⟩; have HB := hide (HB.out.trans (hb.mono HB.out.size)))
        | (go_at_call 13; (with_reducible refine (HD.out _).mono ?_); rintro e w' ⟨rfl, rfl⟩))
    go_ret2
    rw [HV.out]
    exact ⟨rfl, HB.out⟩
end Go.Proofs.YtbogjebipnmckaaDoor
