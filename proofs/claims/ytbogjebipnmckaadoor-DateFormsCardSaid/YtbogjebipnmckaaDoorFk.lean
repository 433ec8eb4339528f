/-
  Layer 8: the page's ParseDate: texts with an offset.
-/
import Derived.Test.YtbogjebipnmckaaDoorFe
namespace Go.Proofs.YtbogjebipnmckaaDoor
open Go.RowKit
set_option linter.unusedSimpArgs false
set_option linter.unusedVariables false

set_option maxRecDepth 100000 in
set_option maxHeartbeats 3200000 in
theorem prMb (y m dd h i s : Nat) (z : List UInt8) (b1 : y < 10000) (b2 : m < 100) (b3 : dd < 100) (b4 : h < 100) (b5 : i < 100) (b6 : s < 100) (hz : 1 ≤ z.length) (hzl : z.length ≤ 9000000000000000000) (oh om : Nat) (w1 : ¬ 23 < oh) (w2 : ¬ 59 < om) (hk : dayB (y : Int) (m : Int) (dd : Int) = true) (hh : h ≤ 23) (hi : i ≤ 59) (hs : s ≤ 59) (q1 : oh < 100) (q2 : om < 100) (hzz : z = ofsT 45 oh om) (w : World) :
    Calls Tryd.prog 11 #[.string (strOf (dtx y m dd h i s z))] w fun e w' => e = .returned (parV (dtx y m dd h i s z)) ∧ Below w.heap.size w w' := by
  have hlen := dtx_length y m dd h i s z
  have hL := fun W => run_lenS (P := Tryd.prog) (t := 9) (ty := 3) (by kernel_rfl) (dtx y m dd h i s z) W
  have HB := hide (Below.refl w.heap.size w)
  have d : decide (((dtx y m dd h i s z).length : Int) < 20) = false := by simp; omega
  have d' : decide ((dtx y m dd h i s z).length < 20) = false := by simp; omega
  have c19 := fun W => run_cutTo (P := Tryd.prog) (t := 9) (by kernel_rfl) (dtx y m dd h i s z) 19 (by omega) W
  rw [show ((19 : Nat) : Int) = 19 from rfl] at c19
  have l19 : ((dtx y m dd h i s z).take 19).length ≤ 9223372036854775807 := by rw [List.length_take]; omega
  have HSH := hide (fun W => shaped_c _ shape19 true (shaped_dtx y m dd h i s z b1 b2 b3 b4 b5 b6) l19 (by decide) W)
  unfold shape19 at HSH
  have cu := fun W => dtx_cuts y m dd h i s z b1 W (P := Tryd.prog) (t := 9) (by kernel_rfl)
  have k1 := fun W => (cu W).1
  have k2 := fun W => (cu W).2.1
  have k3 := fun W => (cu W).2.2.1
  have k4 := fun W => (cu W).2.2.2.1
  have k5 := fun W => (cu W).2.2.2.2.1
  have k6 := fun W => (cu W).2.2.2.2.2.1
  have k7 := fun W => (cu W).2.2.2.2.2.2.1
  have k8 := fun W => (cu W).2.2.2.2.2.2.2
  clear cu
  have HNO := hide (fun hno => parV_no (z := z) b1 b2 b3 b4 b5 b6 hno)
  have HYES := hide (fun (n o : Int) hk hn e2 e3 e4 e5 e6 hb hr ho r => par_gen (z := z) (n := n) (o := o) b1 b2 b3 b4 b5 b6 hk hn e2 e3 e4 e5 e6 hb hr ho r)
  generalize (dtx y m dd h i s z).take 19 = l0 at c19 HSH
  generalize dtx y m dd h i s z = l at *
  have H1 := hide (fun W => twoR_any (y / 100) (by omega) W)
  have H2 := hide (fun W => twoR_any (y % 100) (by omega) W)
  have H3 := hide (fun W => twoR_any m (by omega) W)
  have H4 := hide (fun W => twoR_any dd (by omega) W)
  have H5 := hide (fun W => twoR_any h (by omega) W)
  have H6 := hide (fun W => twoR_any i (by omega) W)
  have H7 := hide (fun W => twoR_any s (by omega) W)
  generalize d2 (y / 100) = s1 at *
  generalize d2 (y % 100) = s2 at *
  obtain ⟨p1, hp1⟩ : ∃ p : Nat, p = y / 100 := ⟨_, rfl⟩
  obtain ⟨p2, hp2⟩ : ∃ p : Nat, p = y % 100 := ⟨_, rfl⟩
  have ey : (100 : Int) * (p1 : Int) + (p2 : Int) = (y : Int) := by omega
  have pb1 : p1 < 100 := by omega
  have pb2 : p2 < 100 := by omega
  rw [← hp1] at H1
  rw [← hp2] at H2
  clear hp1 hp2 l19 hlen
  generalize d2 m = s3 at *
  generalize d2 dd = s4 at *
  generalize d2 h = s5 at *
  generalize d2 i = s6 at *
  generalize d2 s = s7 at *
  have hv : dayV (y : Int) (m : Int) (dd : Int) = .tuple #[.int .i64 (dayN (y : Int) (m : Int) (dd : Int)), .bool true] := by unfold dayV; rw [if_pos hk]
  have HD := hide (fun W => dayR_is hv W)
  obtain ⟨n0, n1⟩ := dayN_bd hk
  obtain ⟨g0, g1, g2, g3, g4, g5⟩ := dayB_31 hk
  have HM := hide (show m ≤ 12 ∧ dd ≤ 31 by omega)
  have HKK := hide hk
  obtain ⟨n, hn⟩ : ∃ n, dayN (y : Int) (m : Int) (dd : Int) = n := ⟨_, rfl⟩
  rw [hn] at HD n0 n1 HNO
  have HNN := hide hn
  clear hv hn g0 g1 g2 g3 g4 g5 hk
  have e1 : decide (23 < (h : Int)) = false := by simp; omega
  have e1' : decide (23 < h) = false := by simp; omega
  have e2 : decide (59 < (i : Int)) = false := by simp; omega
  have e2' : decide (59 < i) = false := by simp; omega
  have e3 : decide (59 < (s : Int)) = false := by simp; omega
  have e3' : decide (59 < s) = false := by simp; omega
  obtain ⟨tt, ht⟩ : ∃ tt : Nat, tt = 3600 * h + 60 * i + s := ⟨_, rfl⟩
  have et : (3600 : Int) * (h : Int) + 60 * (i : Int) + (s : Int) = (tt : Int) := by omega
  have tb : tt ≤ 86399 := by omega
  have ezn : (z != [90]) = true := by rw [hzz]; simp [ofsT]
  have ezz : (z == [90]) = false := by rw [hzz]; simp [ofsT]
  have HO := hide (show offV z = -(3600 * oh + 60 * om) ∧ offR z = [] ∧ offB z = (decide (oh ≤ 23) && decide (om ≤ 59)) by rw [hzz]; exact off_M oh om q1 q2)
  have HP := hide (fun W => shaped_c z shapeP false (by rw [hzz]; exact (shaped_P oh om q1 q2).2.2.1) (by omega) (by decide) W)
  have HMM := hide (fun W => shaped_c z shapeM true (by rw [hzz]; exact (shaped_P oh om q1 q2).2.2.2) (by omega) (by decide) W)
  unfold shapeP at HP
  unfold shapeM at HMM
  have cu := fun W => ofs_cuts 45 oh om W (P := Tryd.prog) (t := 9) (by kernel_rfl)
  rw [← hzz] at cu
  have u1 := fun W => (cu W).1
  have u2 := fun W => (cu W).2.1
  have u3 := fun W => (cu W).2.2
  have U1 := hide (fun W => twoR_any oh q1 W)
  have U2 := hide (fun W => twoR_any om q2 W)
  generalize d2 oh = s8 at *
  generalize d2 om = s9 at *
  have HT := hide ht
  have HHH := hide (show h ≤ 23 ∧ i ≤ 59 ∧ s ≤ 59 from ⟨hh, hi, hs⟩)
  rw [show ((UInt8.toNat 45 : Nat) : Int) = 45 from rfl] at u3
  clear cu hzz ht
  have v1 : decide (23 < (oh : Int)) = false := by simp; omega
  have v1' : decide (23 < oh) = false := by simp; omega
  have v2 : decide (59 < (om : Int)) = false := by simp; omega
  have v2' : decide (59 < om) = false := by simp; omega
  obtain ⟨ff, hf⟩ : ∃ ff : Nat, ff = 3600 * oh + 60 * om := ⟨_, rfl⟩
  have ef : (3600 : Int) * (oh : Int) + 60 * (om : Int) = (ff : Int) := by omega
  have fb : ff ≤ 86399 := by omega
  have HFF := hide hf
  have HOB := hide (show offB z = true by rw [HO.out.2.2, decide_eq_true (show oh ≤ 23 by omega), decide_eq_true (show om ≤ 59 by omega)]; rfl)
  have HOV := hide (show offV z = -(ff : Int) by rw [HO.out.1]; have := HFF.out; omega)
  clear w1 w2 hf
  by_cases r1 : n * 86400 + (tt : Int) + (ff : Int) < 0
  · have f1 : decide (n * 86400 + (tt : Int) + (ff : Int) < 0) = true := decide_eq_true r1
    have HV : Hid (parV l = .tuple #[.int .i64 0, .bool false]) := hide (HNO.out fun q => by have := q.2.2.2.2.2.2.1; rw [HOV.out] at this; have := HT.out; omega)
    clear HNO HYES
    go_enter Tryd.func11, Tryd.ntmps11
    go_wp2_with (first
        | (go_at_call 22; (with_reducible refine (HSH.out _).mono ?_); rintro e w' ⟨rfl, hb⟩; have HB := hide (HB.out.trans (hb.mono HB.out.size)); clear hb))
    refine wp_region_T [(0, 1), (1, 1), (4, 1), (5, 1), (8, 1), (9, 1), (11, 1), (12, 1), (2, 2), (3, 1), (6, 2), (7, 1), (10, 2), (13, 2), (14, 2), (15, 1), (16, 1), (17, 1), (18, 1), (19, 1)] (by kernel_rfl) (by kernel_rfl) (fun _ _ _ _ h => h) ?_
    have HB := hide HB.out.drew
    go_wp2_with (first
        | (refine wpT_nil ?_)   | ((with_reducible refine fromT_refl ?_); (try simp only [Act.put, List.setIfInBounds_toArray, List.set_cons_zero, List.set_cons_succ, List.getElem_toArray, List.getElem_cons_succ, List.getElem_cons_zero]))   | ((with_reducible refine fromT_mk (by assumption) ?_); (try simp only [Act.put, List.setIfInBounds_toArray, List.set_cons_zero, List.set_cons_succ, List.getElem_toArray, List.getElem_cons_succ, List.getElem_cons_zero]))   | (refine wpT_pure (v := ?_) rfl rfl ?_ ?_; rotate_left; (intro wx; go_simp; try go_bits) <;> (with_reducible rfl); (try simp only [Act.put, List.setIfInBounds_toArray, List.set_cons_zero, List.set_cons_succ, List.getElem_toArray, List.getElem_cons_succ, List.getElem_cons_zero]))   | (refine wpT_load (v := ?_) rfl rfl rfl ?_ ?_; rotate_left; (go_simp; try go_bits) <;> (with_reducible rfl); (try simp only [Act.put, List.setIfInBounds_toArray, List.set_cons_zero, List.set_cons_succ, List.getElem_toArray, List.getElem_cons_succ, List.getElem_cons_zero]))   | (refine wpT_read (v := ?_) rfl rfl ?_ ?_; rotate_left; (intro wx hx; go_simp; try go_bits) <;> (with_reducible rfl); (try simp only [Act.put, List.setIfInBounds_toArray, List.set_cons_zero, List.set_cons_succ, List.getElem_toArray, List.getElem_cons_succ, List.getElem_cons_zero]))   | (refine wpT_call rfl rfl ?_; intro K hK)   | (refine wpT_late rfl rfl ?_; intro K hK)   | (refine wpT_any rfl rfl ?_; intro K hK)   | (refine wpT_skip rfl rfl ?_; (try simp only [Act.put, List.setIfInBounds_toArray, List.set_cons_zero, List.set_cons_succ, List.getElem_toArray, List.getElem_cons_succ, List.getElem_cons_zero]))
        | (go_at_call 23; (with_reducible refine (H1.out _).mono ?_); rintro e w' ⟨rfl, hb⟩; have HB := hide (HB.out.trans (hb.mono HB.out.size)))
        | (go_at_call 23; (with_reducible refine (H2.out _).mono ?_); rintro e w' ⟨rfl, hb⟩; have HB := hide (HB.out.trans (hb.mono HB.out.size)))
        | (go_at_call 23; (with_reducible refine (H3.out _).mono ?_); rintro e w' ⟨rfl, hb⟩; have HB := hide (HB.out.trans (hb.mono HB.out.size)))
        | (go_at_call 23; (with_reducible refine (H4.out _).mono ?_); rintro e w' ⟨rfl, hb⟩; have HB := hide (HB.out.trans (hb.mono HB.out.size)))
        | (go_at_call 23; (with_reducible refine (H5.out _).mono ?_); rintro e w' ⟨rfl, hb⟩; have HB := hide (HB.out.trans (hb.mono HB.out.size)))
        | (go_at_call 23; (with_reducible refine (H6.out _).mono ?_); rintro e w' ⟨rfl, hb⟩; have HB := hide (HB.out.trans (hb.mono HB.out.size)))
        | (go_at_call 23; (with_reducible refine (H7.out _).mono ?_); rintro e w' ⟨rfl, hb⟩; have HB := hide (HB.out.trans (hb.mono HB.out.size)))
        | (go_at_call 23; (with_reducible refine (U1.out _).mono ?_); rintro e w' ⟨rfl, hb⟩; have HB := hide (HB.out.trans (hb.mono HB.out.size)))
        | (go_at_call 23; (with_reducible refine (U2.out _).mono ?_); rintro e w' ⟨rfl, hb⟩; have HB := hide (HB.out.trans (hb.mono HB.out.size)))
        | (go_at_call 13; (with_reducible refine (HD.out _).mono ?_); rintro e w' ⟨rfl, rfl⟩)
        | (go_at_call 22; (with_reducible refine (HP.out _).mono ?_); rintro e w' ⟨rfl, hb⟩; have HB := hide (HB.out.trans (hb.mono HB.out.size)); clear hb)
        | (go_at_call 22; (with_reducible refine (HMM.out _).mono ?_); rintro e w' ⟨rfl, hb⟩; have HB := hide (HB.out.trans (hb.mono HB.out.size)); clear hb))
    refine wp_region_T [(0, 1), (1, 1), (3, 1), (4, 1), (6, 1), (7, 1), (2, 2), (5, 2), (8, 2), (9, 1), (10, 1), (11, 1)] (by kernel_rfl) (by kernel_rfl) (fun _ _ _ _ h => h) ?_
    have HB := hide HB.out.drew
    go_wp2_with (first
        | (refine wpT_nil ?_)   | ((with_reducible refine fromT_refl ?_); (try simp only [Act.put, List.setIfInBounds_toArray, List.set_cons_zero, List.set_cons_succ, List.getElem_toArray, List.getElem_cons_succ, List.getElem_cons_zero]))   | ((with_reducible refine fromT_mk (by assumption) ?_); (try simp only [Act.put, List.setIfInBounds_toArray, List.set_cons_zero, List.set_cons_succ, List.getElem_toArray, List.getElem_cons_succ, List.getElem_cons_zero]))   | (refine wpT_pure (v := ?_) rfl rfl ?_ ?_; rotate_left; (intro wx; go_simp; try go_bits) <;> (with_reducible rfl); (try simp only [Act.put, List.setIfInBounds_toArray, List.set_cons_zero, List.set_cons_succ, List.getElem_toArray, List.getElem_cons_succ, List.getElem_cons_zero]))   | (refine wpT_load (v := ?_) rfl rfl rfl ?_ ?_; rotate_left; (go_simp; try go_bits) <;> (with_reducible rfl); (try simp only [Act.put, List.setIfInBounds_toArray, List.set_cons_zero, List.set_cons_succ, List.getElem_toArray, List.getElem_cons_succ, List.getElem_cons_zero]))   | (refine wpT_read (v := ?_) rfl rfl ?_ ?_; rotate_left; (intro wx hx; go_simp; try go_bits) <;> (with_reducible rfl); (try simp only [Act.put, List.setIfInBounds_toArray, List.set_cons_zero, List.set_cons_succ, List.getElem_toArray, List.getElem_cons_succ, List.getElem_cons_zero]))   | (refine wpT_call rfl rfl ?_; intro K hK)   | (refine wpT_late rfl rfl ?_; intro K hK)   | (refine wpT_any rfl rfl ?_; intro K hK)   | (refine wpT_skip rfl rfl ?_; (try simp only [Act.put, List.setIfInBounds_toArray, List.set_cons_zero, List.set_cons_succ, List.getElem_toArray, List.getElem_cons_succ, List.getElem_cons_zero]))
        | (go_at_call 23; (with_reducible refine (H1.out _).mono ?_); rintro e w' ⟨rfl, hb⟩; have HB := hide (HB.out.trans (hb.mono HB.out.size)))
        | (go_at_call 23; (with_reducible refine (H2.out _).mono ?_); rintro e w' ⟨rfl, hb⟩; have HB := hide (HB.out.trans (hb.mono HB.out.size)))
        | (go_at_call 23; (with_reducible refine (H3.out _).mono ?_); rintro e w' ⟨rfl, hb⟩; have HB := hide (HB.out.trans (hb.mono HB.out.size)))
        | (go_at_call 23; (with_reducible refine (H4.out _).mono ?_); rintro e w' ⟨rfl, hb⟩; have HB := hide (HB.out.trans (hb.mono HB.out.size)))
        | (go_at_call 23; (with_reducible refine (H5.out _).mono ?_); rintro e w' ⟨rfl, hb⟩; have HB := hide (HB.out.trans (hb.mono HB.out.size)))
        | (go_at_call 23; (with_reducible refine (H6.out _).mono ?_); rintro e w' ⟨rfl, hb⟩; have HB := hide (HB.out.trans (hb.mono HB.out.size)))
        | (go_at_call 23; (with_reducible refine (H7.out _).mono ?_); rintro e w' ⟨rfl, hb⟩; have HB := hide (HB.out.trans (hb.mono HB.out.size)))
        | (go_at_call 23; (with_reducible refine (U1.out _).mono ?_); rintro e w' ⟨rfl, hb⟩; have HB := hide (HB.out.trans (hb.mono HB.out.size)))
        | (go_at_call 23; (with_reducible refine (U2.out _).mono ?_); rintro e w' ⟨rfl, hb⟩; have HB := hide (HB.out.trans (hb.mono HB.out.size)))
        | (go_at_call 13; (with_reducible refine (HD.out _).mono ?_); rintro e w' ⟨rfl, rfl⟩)
        | (go_at_call 22; (with_reducible refine (HP.out _).mono ?_); rintro e w' ⟨rfl, hb⟩; have HB := hide (HB.out.trans (hb.mono HB.out.size)); clear hb)
        | (go_at_call 22; (with_reducible refine (HMM.out _).mono ?_); rintro e w' ⟨rfl, hb⟩; have HB := hide (HB.out.trans (hb.mono HB.out.size)); clear hb))
    refine wp_region_T [(0, 1), (1, 1), (3, 1), (4, 1), (2, 2), (5, 2), (6, 1), (7, 1)] (by kernel_rfl) (by kernel_rfl) (fun _ _ _ _ h => h) ?_
    have HB := hide HB.out.drew
    go_wp2_with (first
        | (refine wpT_nil ?_)   | ((with_reducible refine fromT_refl ?_); (try simp only [Act.put, List.setIfInBounds_toArray, List.set_cons_zero, List.set_cons_succ, List.getElem_toArray, List.getElem_cons_succ, List.getElem_cons_zero]))   | ((with_reducible refine fromT_mk (by assumption) ?_); (try simp only [Act.put, List.setIfInBounds_toArray, List.set_cons_zero, List.set_cons_succ, List.getElem_toArray, List.getElem_cons_succ, List.getElem_cons_zero]))   | (refine wpT_pure (v := ?_) rfl rfl ?_ ?_; rotate_left; (intro wx; go_simp; try go_bits) <;> (with_reducible rfl); (try simp only [Act.put, List.setIfInBounds_toArray, List.set_cons_zero, List.set_cons_succ, List.getElem_toArray, List.getElem_cons_succ, List.getElem_cons_zero]))   | (refine wpT_load (v := ?_) rfl rfl rfl ?_ ?_; rotate_left; (go_simp; try go_bits) <;> (with_reducible rfl); (try simp only [Act.put, List.setIfInBounds_toArray, List.set_cons_zero, List.set_cons_succ, List.getElem_toArray, List.getElem_cons_succ, List.getElem_cons_zero]))   | (refine wpT_read (v := ?_) rfl rfl ?_ ?_; rotate_left; (intro wx hx; go_simp; try go_bits) <;> (with_reducible rfl); (try simp only [Act.put, List.setIfInBounds_toArray, List.set_cons_zero, List.set_cons_succ, List.getElem_toArray, List.getElem_cons_succ, List.getElem_cons_zero]))   | (refine wpT_call rfl rfl ?_; intro K hK)   | (refine wpT_late rfl rfl ?_; intro K hK)   | (refine wpT_any rfl rfl ?_; intro K hK)   | (refine wpT_skip rfl rfl ?_; (try simp only [Act.put, List.setIfInBounds_toArray, List.set_cons_zero, List.set_cons_succ, List.getElem_toArray, List.getElem_cons_succ, List.getElem_cons_zero]))
        | (go_at_call 23; (with_reducible refine (H1.out _).mono ?_); rintro e w' ⟨rfl, hb⟩; have HB := hide (HB.out.trans (hb.mono HB.out.size)))
        | (go_at_call 23; (with_reducible refine (H2.out _).mono ?_); rintro e w' ⟨rfl, hb⟩; have HB := hide (HB.out.trans (hb.mono HB.out.size)))
        | (go_at_call 23; (with_reducible refine (H3.out _).mono ?_); rintro e w' ⟨rfl, hb⟩; have HB := hide (HB.out.trans (hb.mono HB.out.size)))
        | (go_at_call 23; (with_reducible refine (H4.out _).mono ?_); rintro e w' ⟨rfl, hb⟩; have HB := hide (HB.out.trans (hb.mono HB.out.size)))
        | (go_at_call 23; (with_reducible refine (H5.out _).mono ?_); rintro e w' ⟨rfl, hb⟩; have HB := hide (HB.out.trans (hb.mono HB.out.size)))
        | (go_at_call 23; (with_reducible refine (H6.out _).mono ?_); rintro e w' ⟨rfl, hb⟩; have HB := hide (HB.out.trans (hb.mono HB.out.size)))
        | (go_at_call 23; (with_reducible refine (H7.out _).mono ?_); rintro e w' ⟨rfl, hb⟩; have HB := hide (HB.out.trans (hb.mono HB.out.size)))
        | (go_at_call 23; (with_reducible refine (U1.out _).mono ?_); rintro e w' ⟨rfl, hb⟩; have HB := hide (HB.out.trans (hb.mono HB.out.size)))
        | (go_at_call 23; (with_reducible refine (U2.out _).mono ?_); rintro e w' ⟨rfl, hb⟩; have HB := hide (HB.out.trans (hb.mono HB.out.size)))
        | (go_at_call 13; (with_reducible refine (HD.out _).mono ?_); rintro e w' ⟨rfl, rfl⟩)
        | (go_at_call 22; (with_reducible refine (HP.out _).mono ?_); rintro e w' ⟨rfl, hb⟩; have HB := hide (HB.out.trans (hb.mono HB.out.size)); clear hb)
        | (go_at_call 22; (with_reducible refine (HMM.out _).mono ?_); rintro e w' ⟨rfl, hb⟩; have HB := hide (HB.out.trans (hb.mono HB.out.size)); clear hb))
    go_ret2
    rw [HV.out]
    exact ⟨rfl, HB.out⟩
  · have f1 : decide (n * 86400 + (tt : Int) + (ff : Int) < 0) = false := decide_eq_false r1
    by_cases r2 : 253402300799 < n * 86400 + (tt : Int) + (ff : Int)
    · have f2 : decide (253402300799 < n * 86400 + (tt : Int) + (ff : Int)) = true := decide_eq_true r2
      have HV : Hid (parV l = .tuple #[.int .i64 0, .bool false]) := hide (HNO.out fun q => by have := q.2.2.2.2.2.2.2; rw [HOV.out] at this; have := HT.out; omega)
      clear HNO HYES
      go_enter Tryd.func11, Tryd.ntmps11
      go_wp2_with (first
          | (go_at_call 22; (with_reducible refine (HSH.out _).mono ?_); rintro e w' ⟨rfl, hb⟩; have HB := hide (HB.out.trans (hb.mono HB.out.size)); clear hb))
      refine wp_region_T [(0, 1), (1, 1), (4, 1), (5, 1), (8, 1), (9, 1), (11, 1), (12, 1), (2, 2), (3, 1), (6, 2), (7, 1), (10, 2), (13, 2), (14, 2), (15, 1), (16, 1), (17, 1), (18, 1), (19, 1)] (by kernel_rfl) (by kernel_rfl) (fun _ _ _ _ h => h) ?_
      have HB := hide HB.out.drew
      go_wp2_with (first
          | (refine wpT_nil ?_)   | ((with_reducible refine fromT_refl ?_); (try simp only [Act.put, List.setIfInBounds_toArray, List.set_cons_zero, List.set_cons_succ, List.getElem_toArray, List.getElem_cons_succ, List.getElem_cons_zero]))   | ((with_reducible refine fromT_mk (by assumption) ?_); (try simp only [Act.put, List.setIfInBounds_toArray, List.set_cons_zero, List.set_cons_succ, List.getElem_toArray, List.getElem_cons_succ, List.getElem_cons_zero]))   | (refine wpT_pure (v := ?_) rfl rfl ?_ ?_; rotate_left; (intro wx; go_simp; try go_bits) <;> (with_reducible rfl); (try simp only [Act.put, List.setIfInBounds_toArray, List.set_cons_zero, List.set_cons_succ, List.getElem_toArray, List.getElem_cons_succ, List.getElem_cons_zero]))   | (refine wpT_load (v := ?_) rfl rfl rfl ?_ ?_; rotate_left; (go_simp; try go_bits) <;> (with_reducible rfl); (try simp only [Act.put, List.setIfInBounds_toArray, List.set_cons_zero, List.set_cons_succ, List.getElem_toArray, List.getElem_cons_succ, List.getElem_cons_zero]))   | (refine wpT_read (v := ?_) rfl rfl ?_ ?_; rotate_left; (intro wx hx; go_simp; try go_bits) <;> (with_reducible rfl); (try simp only [Act.put, List.setIfInBounds_toArray, List.set_cons_zero, List.set_cons_succ, List.getElem_toArray, List.getElem_cons_succ, List.getElem_cons_zero]))   | (refine wpT_call rfl rfl ?_; intro K hK)   | (refine wpT_late rfl rfl ?_; intro K hK)   | (refine wpT_any rfl rfl ?_; intro K hK)   | (refine wpT_skip rfl rfl ?_; (try simp only [Act.put, List.setIfInBounds_toArray, List.set_cons_zero, List.set_cons_succ, List.getElem_toArray, List.getElem_cons_succ, List.getElem_cons_zero]))
          | (go_at_call 23; (with_reducible refine (H1.out _).mono ?_); rintro e w' ⟨rfl, hb⟩; have HB := hide (HB.out.trans (hb.mono HB.out.size)))
          | (go_at_call 23; (with_reducible refine (H2.out _).mono ?_); rintro e w' ⟨rfl, hb⟩; have HB := hide (HB.out.trans (hb.mono HB.out.size)))
          | (go_at_call 23; (with_reducible refine (H3.out _).mono ?_); rintro e w' ⟨rfl, hb⟩; have HB := hide (HB.out.trans (hb.mono HB.out.size)))
          | (go_at_call 23; (with_reducible refine (H4.out _).mono ?_); rintro e w' ⟨rfl, hb⟩; have HB := hide (HB.out.trans (hb.mono HB.out.size)))
          | (go_at_call 23; (with_reducible refine (H5.out _).mono ?_); rintro e w' ⟨rfl, hb⟩; have HB := hide (HB.out.trans (hb.mono HB.out.size)))
          | (go_at_call 23; (with_reducible refine (H6.out _).mono ?_); rintro e w' ⟨rfl, hb⟩; have HB := hide (HB.out.trans (hb.mono HB.out.size)))
          | (go_at_call 23; (with_reducible refine (H7.out _).mono ?_); rintro e w' ⟨rfl, hb⟩; have HB := hide (HB.out.trans (hb.mono HB.out.size)))
          | (go_at_call 23; (with_reducible refine (U1.out _).mono ?_); rintro e w' ⟨rfl, hb⟩; have HB := hide (HB.out.trans (hb.mono HB.out.size)))
          | (go_at_call 23; (with_reducible refine (U2.out _).mono ?_); rintro e w' ⟨rfl, hb⟩; have HB := hide (HB.out.trans (hb.mono HB.out.size)))
          | (go_at_call 13; (with_reducible refine (HD.out _).mono ?_); rintro e w' ⟨rfl, rfl⟩)
          | (go_at_call 22; (with_reducible refine (HP.out _).mono ?_); rintro e w' ⟨rfl, hb⟩; have HB := hide (HB.out.trans (hb.mono HB.out.size)); clear hb)
          | (go_at_call 22; (with_reducible refine (HMM.out _).mono ?_); rintro e w' ⟨rfl, hb⟩; have HB := hide (HB.out.trans (hb.mono HB.out.size)); clear hb))
      refine wp_region_T [(0, 1), (1, 1), (3, 1), (4, 1), (6, 1), (7, 1), (2, 2), (5, 2), (8, 2), (9, 1), (10, 1), (11, 1)] (by kernel_rfl) (by kernel_rfl) (fun _ _ _ _ h => h) ?_
      have HB := hide HB.out.drew
      go_wp2_with (first
          | (refine wpT_nil ?_)   | ((with_reducible refine fromT_refl ?_); (try simp only [Act.put, List.setIfInBounds_toArray, List.set_cons_zero, List.set_cons_succ, List.getElem_toArray, List.getElem_cons_succ, List.getElem_cons_zero]))   | ((with_reducible refine fromT_mk (by assumption) ?_); (try simp only [Act.put, List.setIfInBounds_toArray, List.set_cons_zero, List.set_cons_succ, List.getElem_toArray, List.getElem_cons_succ, List.getElem_cons_zero]))   | (refine wpT_pure (v := ?_) rfl rfl ?_ ?_; rotate_left; (intro wx; go_simp; try go_bits) <;> (with_reducible rfl); (try simp only [Act.put, List.setIfInBounds_toArray, List.set_cons_zero, List.set_cons_succ, List.getElem_toArray, List.getElem_cons_succ, List.getElem_cons_zero]))   | (refine wpT_load (v := ?_) rfl rfl rfl ?_ ?_; rotate_left; (go_simp; try go_bits) <;> (with_reducible rfl); (try simp only [Act.put, List.setIfInBounds_toArray, List.set_cons_zero, List.set_cons_succ, List.getElem_toArray, List.getElem_cons_succ, List.getElem_cons_zero]))   | (refine wpT_read (v := ?_) rfl rfl ?_ ?_; rotate_left; (intro wx hx; go_simp; try go_bits) <;> (with_reducible rfl); (try simp only [Act.put, List.setIfInBounds_toArray, List.set_cons_zero, List.set_cons_succ, List.getElem_toArray, List.getElem_cons_succ, List.getElem_cons_zero]))   | (refine wpT_call rfl rfl ?_; intro K hK)   | (refine wpT_late rfl rfl ?_; intro K hK)   | (refine wpT_any rfl rfl ?_; intro K hK)   | (refine wpT_skip rfl rfl ?_; (try simp only [Act.put, List.setIfInBounds_toArray, List.set_cons_zero, List.set_cons_succ, List.getElem_toArray, List.getElem_cons_succ, List.getElem_cons_zero]))
          | (go_at_call 23; (with_reducible refine (H1.out _).mono ?_); rintro e w' ⟨rfl, hb⟩; have HB := hide (HB.out.trans (hb.mono HB.out.size)))
          | (go_at_call 23; (with_reducible refine (H2.out _).mono ?_); rintro e w' ⟨rfl, hb⟩; have HB := hide (HB.out.trans (hb.mono HB.out.size)))
          | (go_at_call 23; (with_reducible refine (H3.out _).mono ?_); rintro e w' ⟨rfl, hb⟩; have HB := hide (HB.out.trans (hb.mono HB.out.size)))
          | (go_at_call 23; (with_reducible refine (H4.out _).mono ?_); rintro e w' ⟨rfl, hb⟩; have HB := hide (HB.out.trans (hb.mono HB.out.size)))
          | (go_at_call 23; (with_reducible refine (H5.out _).mono ?_); rintro e w' ⟨rfl, hb⟩; have HB := hide (HB.out.trans (hb.mono HB.out.size)))
          | (go_at_call 23; (with_reducible refine (H6.out _).mono ?_); rintro e w' ⟨rfl, hb⟩; have HB := hide (HB.out.trans (hb.mono HB.out.size)))
          | (go_at_call 23; (with_reducible refine (H7.out _).mono ?_); rintro e w' ⟨rfl, hb⟩; have HB := hide (HB.out.trans (hb.mono HB.out.size)))
          | (go_at_call 23; (with_reducible refine (U1.out _).mono ?_); rintro e w' ⟨rfl, hb⟩; have HB := hide (HB.out.trans (hb.mono HB.out.size)))
          | (go_at_call 23; (with_reducible refine (U2.out _).mono ?_); rintro e w' ⟨rfl, hb⟩; have HB := hide (HB.out.trans (hb.mono HB.out.size)))
          | (go_at_call 13; (with_reducible refine (HD.out _).mono ?_); rintro e w' ⟨rfl, rfl⟩)
          | (go_at_call 22; (with_reducible refine (HP.out _).mono ?_); rintro e w' ⟨rfl, hb⟩; have HB := hide (HB.out.trans (hb.mono HB.out.size)); clear hb)
          | (go_at_call 22; (with_reducible refine (HMM.out _).mono ?_); rintro e w' ⟨rfl, hb⟩; have HB := hide (HB.out.trans (hb.mono HB.out.size)); clear hb))
      refine wp_region_T [(0, 1), (1, 1), (3, 1), (4, 1), (2, 2), (5, 2), (6, 1), (7, 1)] (by kernel_rfl) (by kernel_rfl) (fun _ _ _ _ h => h) ?_
      have HB := hide HB.out.drew
      go_wp2_with (first
          | (refine wpT_nil ?_)   | ((with_reducible refine fromT_refl ?_); (try simp only [Act.put, List.setIfInBounds_toArray, List.set_cons_zero, List.set_cons_succ, List.getElem_toArray, List.getElem_cons_succ, List.getElem_cons_zero]))   | ((with_reducible refine fromT_mk (by assumption) ?_); (try simp only [Act.put, List.setIfInBounds_toArray, List.set_cons_zero, List.set_cons_succ, List.getElem_toArray, List.getElem_cons_succ, List.getElem_cons_zero]))   | (refine wpT_pure (v := ?_) rfl rfl ?_ ?_; rotate_left; (intro wx; go_simp; try go_bits) <;> (with_reducible rfl); (try simp only [Act.put, List.setIfInBounds_toArray, List.set_cons_zero, List.set_cons_succ, List.getElem_toArray, List.getElem_cons_succ, List.getElem_cons_zero]))   | (refine wpT_load (v := ?_) rfl rfl rfl ?_ ?_; rotate_left; (go_simp; try go_bits) <;> (with_reducible rfl); (try simp only [Act.put, List.setIfInBounds_toArray, List.set_cons_zero, List.set_cons_succ, List.getElem_toArray, List.getElem_cons_succ, List.getElem_cons_zero]))   | (refine wpT_read (v := ?_) rfl rfl ?_ ?_; rotate_left; (intro wx hx; go_simp; try go_bits) <;> (with_reducible rfl); (try simp only [Act.put, List.setIfInBounds_toArray, List.set_cons_zero, List.set_cons_succ, List.getElem_toArray, List.getElem_cons_succ, List.getElem_cons_zero]))   | (refine wpT_call rfl rfl ?_; intro K hK)   | (refine wpT_late rfl rfl ?_; intro K hK)   | (refine wpT_any rfl rfl ?_; intro K hK)   | (refine wpT_skip rfl rfl ?_; (try simp only [Act.put, List.setIfInBounds_toArray, List.set_cons_zero, List.set_cons_succ, List.getElem_toArray, List.getElem_cons_succ, List.getElem_cons_zero]))
          | (go_at_call 23; (with_reducible refine (H1.out _).mono ?_); rintro e w' ⟨rfl, hb⟩; have HB := hide (HB.out.trans (hb.mono HB.out.size)))
          | (go_at_call 23; (with_reducible refine (H2.out _).mono ?_); rintro e w' ⟨rfl, hb⟩; have HB := hide (HB.out.trans (hb.mono HB.out.size)))
          | (go_at_call 23; (with_reducible refine (H3.out _).mono ?_); rintro e w' ⟨rfl, hb⟩; have HB := hide (HB.out.trans (hb.mono HB.out.size)))
          | (go_at_call 23; (with_reducible refine (H4.out _).mono ?_); rintro e w' ⟨rfl, hb⟩; have HB := hide (HB.out.trans (hb.mono HB.out.size)))
          | (go_at_call 23; (with_reducible refine (H5.out _).mono ?_); rintro e w' ⟨rfl, hb⟩; have HB := hide (HB.out.trans (hb.mono HB.out.size)))
          | (go_at_call 23; (with_reducible refine (H6.out _).mono ?_); rintro e w' ⟨rfl, hb⟩; have HB := hide (HB.out.trans (hb.mono HB.out.size)))
          | (go_at_call 23; (with_reducible refine (H7.out _).mono ?_); rintro e w' ⟨rfl, hb⟩; have HB := hide (HB.out.trans (hb.mono HB.out.size)))
          | (go_at_call 23; (with_reducible refine (U1.out _).mono ?_); rintro e w' ⟨rfl, hb⟩; have HB := hide (HB.out.trans (hb.mono HB.out.size)))
          | (go_at_call 23; (with_reducible refine (U2.out _).mono ?_); rintro e w' ⟨rfl, hb⟩; have HB := hide (HB.out.trans (hb.mono HB.out.size)))
          | (go_at_call 13; (with_reducible refine (HD.out _).mono ?_); rintro e w' ⟨rfl, rfl⟩)
          | (go_at_call 22; (with_reducible refine (HP.out _).mono ?_); rintro e w' ⟨rfl, hb⟩; have HB := hide (HB.out.trans (hb.mono HB.out.size)); clear hb)
          | (go_at_call 22; (with_reducible refine (HMM.out _).mono ?_); rintro e w' ⟨rfl, hb⟩; have HB := hide (HB.out.trans (hb.mono HB.out.size)); clear hb))
      go_ret2
      rw [HV.out]
      exact ⟨rfl, HB.out⟩
    · have f2 : decide (253402300799 < n * 86400 + (tt : Int) + (ff : Int)) = false := decide_eq_false r2
      have HV : Hid (parV l = .tuple #[.int .i64 (n * 86400 + (tt : Int) + (ff : Int)), .bool true]) := hide (by have h9 := HYES.out n _ HKK.out HNN.out HM.out.1 HM.out.2 HHH.out.1 HHH.out.2.1 HHH.out.2.2 HOB.out HO.out.2.1 HOV.out (by have := HT.out; omega); rw [h9]; congr 4; have := HT.out; omega)
      clear HNO HYES
      go_enter Tryd.func11, Tryd.ntmps11
      go_wp2_with (first
          | (go_at_call 22; (with_reducible refine (HSH.out _).mono ?_); rintro e w' ⟨rfl, hb⟩; have HB := hide (HB.out.trans (hb.mono HB.out.size)); clear hb))
      refine wp_region_T [(0, 1), (1, 1), (4, 1), (5, 1), (8, 1), (9, 1), (11, 1), (12, 1), (2, 2), (3, 1), (6, 2), (7, 1), (10, 2), (13, 2), (14, 2), (15, 1), (16, 1), (17, 1), (18, 1), (19, 1)] (by kernel_rfl) (by kernel_rfl) (fun _ _ _ _ h => h) ?_
      have HB := hide HB.out.drew
      go_wp2_with (first
          | (refine wpT_nil ?_)   | ((with_reducible refine fromT_refl ?_); (try simp only [Act.put, List.setIfInBounds_toArray, List.set_cons_zero, List.set_cons_succ, List.getElem_toArray, List.getElem_cons_succ, List.getElem_cons_zero]))   | ((with_reducible refine fromT_mk (by assumption) ?_); (try simp only [Act.put, List.setIfInBounds_toArray, List.set_cons_zero, List.set_cons_succ, List.getElem_toArray, List.getElem_cons_succ, List.getElem_cons_zero]))   | (refine wpT_pure (v := ?_) rfl rfl ?_ ?_; rotate_left; (intro wx; go_simp; try go_bits) <;> (with_reducible rfl); (try simp only [Act.put, List.setIfInBounds_toArray, List.set_cons_zero, List.set_cons_succ, List.getElem_toArray, List.getElem_cons_succ, List.getElem_cons_zero]))   | (refine wpT_load (v := ?_) rfl rfl rfl ?_ ?_; rotate_left; (go_simp; try go_bits) <;> (with_reducible rfl); (try simp only [Act.put, List.setIfInBounds_toArray, List.set_cons_zero, List.set_cons_succ, List.getElem_toArray, List.getElem_cons_succ, List.getElem_cons_zero]))   | (refine wpT_read (v := ?_) rfl rfl ?_ ?_; rotate_left; (intro wx hx; go_simp; try go_bits) <;> (with_reducible rfl); (try simp only [Act.put, List.setIfInBounds_toArray, List.set_cons_zero, List.set_cons_succ, List.getElem_toArray, List.getElem_cons_succ, List.getElem_cons_zero]))   | (refine wpT_call rfl rfl ?_; intro K hK)   | (refine wpT_late rfl rfl ?_; intro K hK)   | (refine wpT_any rfl rfl ?_; intro K hK)   | (refine wpT_skip rfl rfl ?_; (try simp only [Act.put, List.setIfInBounds_toArray, List.set_cons_zero, List.set_cons_succ, List.getElem_toArray, List.getElem_cons_succ, List.getElem_cons_zero]))
          | (go_at_call 23; (with_reducible refine (H1.out _).mono ?_); rintro e w' ⟨rfl, hb⟩; have HB := hide (HB.out.trans (hb.mono HB.out.size)))
          | (go_at_call 23; (with_reducible refine (H2.out _).mono ?_); rintro e w' ⟨rfl, hb⟩; have HB := hide (HB.out.trans (hb.mono HB.out.size)))
          | (go_at_call 23; (with_reducible refine (H3.out _).mono ?_); rintro e w' ⟨rfl, hb⟩; have HB := hide (HB.out.trans (hb.mono HB.out.size)))
          | (go_at_call 23; (with_reducible refine (H4.out _).mono ?_); rintro e w' ⟨rfl, hb⟩; have HB := hide (HB.out.trans (hb.mono HB.out.size)))
          | (go_at_call 23; (with_reducible refine (H5.out _).mono ?_); rintro e w' ⟨rfl, hb⟩; have HB := hide (HB.out.trans (hb.mono HB.out.size)))
          | (go_at_call 23; (with_reducible refine (H6.out _).mono ?_); rintro e w' ⟨rfl, hb⟩; have HB := hide (HB.out.trans (hb.mono HB.out.size)))
          | (go_at_call 23; (with_reducible refine (H7.out _).mono ?_); rintro e w' ⟨rfl, hb⟩; have HB := hide (HB.out.trans (hb.mono HB.out.size)))
          | (go_at_call 23; (with_reducible refine (U1.out _).mono ?_); rintro e w' ⟨rfl, hb⟩; have HB := hide (HB.out.trans (hb.mono HB.out.size)))
          | (go_at_call 23; (with_reducible refine (U2.out _).mono ?_); rintro e w' ⟨rfl, hb⟩; have HB := hide (HB.out.trans (hb.mono HB.out.size)))
          | (go_at_call 13; (with_reducible refine (HD.out _).mono ?_); rintro e w' ⟨rfl, rfl⟩)
          | (go_at_call 22; (with_reducible refine (HP.out _).mono ?_); rintro e w' ⟨rfl, hb⟩; have HB := hide (HB.out.trans (hb.mono HB.out.size)); clear hb)
          | (go_at_call 22; (with_reducible refine (HMM.out _).mono ?_); rintro e w' ⟨rfl, hb⟩; have HB := hide (HB.out.trans (hb.mono HB.out.size)); clear hb))
      refine wp_region_T [(0, 1), (1, 1), (3, 1), (4, 1), (6, 1), (7, 1), (2, 2), (5, 2), (8, 2), (9, 1), (10, 1), (11, 1)] (by kernel_rfl) (by kernel_rfl) (fun _ _ _ _ h => h) ?_
      have HB := hide HB.out.drew
      go_wp2_with (first
          | (refine wpT_nil ?_)   | ((with_reducible refine fromT_refl ?_); (try simp only [Act.put, List.setIfInBounds_toArray, List.set_cons_zero, List.set_cons_succ, List.getElem_toArray, List.getElem_cons_succ, List.getElem_cons_zero]))   | ((with_reducible refine fromT_mk (by assumption) ?_); (try simp only [Act.put, List.setIfInBounds_toArray, List.set_cons_zero, List.set_cons_succ, List.getElem_toArray, List.getElem_cons_succ, List.getElem_cons_zero]))   | (refine wpT_pure (v := ?_) rfl rfl ?_ ?_; rotate_left; (intro wx; go_simp; try go_bits) <;> (with_reducible rfl); (try simp only [Act.put, List.setIfInBounds_toArray, List.set_cons_zero, List.set_cons_succ, List.getElem_toArray, List.getElem_cons_succ, List.getElem_cons_zero]))   | (refine wpT_load (v := ?_) rfl rfl rfl ?_ ?_; rotate_left; (go_simp; try go_bits) <;> (with_reducible rfl); (try simp only [Act.put, List.setIfInBounds_toArray, List.set_cons_zero, List.set_cons_succ, List.getElem_toArray, List.getElem_cons_succ, List.getElem_cons_zero]))   | (refine wpT_read (v := ?_) rfl rfl ?_ ?_; rotate_left; (intro wx hx; go_simp; try go_bits) <;> (with_reducible rfl); (try simp only [Act.put, List.setIfInBounds_toArray, List.set_cons_zero, List.set_cons_succ, List.getElem_toArray, List.getElem_cons_succ, List.getElem_cons_zero]))   | (refine wpT_call rfl rfl ?_; intro K hK)   | (refine wpT_late rfl rfl ?_; intro K hK)   | (refine wpT_any rfl rfl ?_; intro K hK)   | (refine wpT_skip rfl rfl ?_; (try simp only [Act.put, List.setIfInBounds_toArray, List.set_cons_zero, List.set_cons_succ, List.getElem_toArray, List.getElem_cons_succ, List.getElem_cons_zero]))
          | (go_at_call 23; (with_reducible refine (H1.out _).mono ?_); rintro e w' ⟨rfl, hb⟩; have HB := hide (HB.out.trans (hb.mono HB.out.size)))
          | (go_at_call 23; (with_reducible refine (H2.out _).mono ?_); rintro e w' ⟨rfl, hb⟩; have HB := hide (HB.out.trans (hb.mono HB.out.size)))
          | (go_at_call 23; (with_reducible refine (H3.out _).mono ?_); rintro e w' ⟨rfl, hb⟩; have HB := hide (HB.out.trans (hb.mono HB.out.size)))
          | (go_at_call 23; (with_reducible refine (H4.out _).mono ?_); rintro e w' ⟨rfl, hb⟩; have HB := hide (HB.out.trans (hb.mono HB.out.size)))
          | (go_at_call 23; (with_reducible refine (H5.out _).mono ?_); rintro e w' ⟨rfl, hb⟩; have HB := hide (HB.out.trans (hb.mono HB.out.size)))
          | (go_at_call 23; (with_reducible refine (H6.out _).mono ?_); rintro e w' ⟨rfl, hb⟩; have HB := hide (HB.out.trans (hb.mono HB.out.size)))
          | (go_at_call 23; (with_reducible refine (H7.out _).mono ?_); rintro e w' ⟨rfl, hb⟩; have HB := hide (HB.out.trans (hb.mono HB.out.size)))
          | (go_at_call 23; (with_reducible refine (U1.out _).mono ?_); rintro e w' ⟨rfl, hb⟩; have HB := hide (HB.out.trans (hb.mono HB.out.size)))
          | (go_at_call 23; (with_reducible refine (U2.out _).mono ?_); rintro e w' ⟨rfl, hb⟩; have HB := hide (HB.out.trans (hb.mono HB.out.size)))
          | (go_at_call 13; (with_reducible refine (HD.out _).mono ?_); rintro e w' ⟨rfl, rfl⟩)
          | (go_at_call 22; (with_reducible refine (HP.out _).mono ?_); rintro e w' ⟨rfl, hb⟩; have HB := hide (HB.out.trans (hb.mono HB.out.size)); clear hb)
          | (go_at_call 22; (with_reducible refine (HMM.out _).mono ?_); rintro e w' ⟨rfl, hb⟩; have HB := hide (HB.out.trans (hb.mono HB.out.size)); clear hb))
      refine wp_region_T [(0, 1), (1, 1), (3, 1), (4, 1), (2, 2), (5, 2), (6, 1), (7, 1)] (by kernel_rfl) (by kernel_rfl) (fun _ _ _ _ h => h) ?_
      have HB := hide HB.out.drew
      go_wp2_with (first
          | (refine wpT_nil ?_)   | ((with_reducible refine fromT_refl ?_); (try simp only [Act.put, List.setIfInBounds_toArray, List.set_cons_zero, List.set_cons_succ, List.getElem_toArray, List.getElem_cons_succ, List.getElem_cons_zero]))   | ((with_reducible refine fromT_mk (by assumption) ?_); (try simp only [Act.put, List.setIfInBounds_toArray, List.set_cons_zero, List.set_cons_succ, List.getElem_toArray, List.getElem_cons_succ, List.getElem_cons_zero]))   | (refine wpT_pure (v := ?_) rfl rfl ?_ ?_; rotate_left; (intro wx; go_simp; try go_bits) <;> (with_reducible rfl); (try simp only [Act.put, List.setIfInBounds_toArray, List.set_cons_zero, List.set_cons_succ, List.getElem_toArray, List.getElem_cons_succ, List.getElem_cons_zero]))   | (refine wpT_load (v := ?_) rfl rfl rfl ?_ ?_; rotate_left; (go_simp; try go_bits) <;> (with_reducible rfl); (try simp only [Act.put, List.setIfInBounds_toArray, List.set_cons_zero, List.set_cons_succ, List.getElem_toArray, List.getElem_cons_succ, List.getElem_cons_zero]))   | (refine wpT_read (v := ?_) rfl rfl ?_ ?_; rotate_left; (intro wx hx; go_simp; try go_bits) <;> (with_reducible rfl); (try simp only [Act.put, List.setIfInBounds_toArray, List.set_cons_zero, List.set_cons_succ, List.getElem_toArray, List.getElem_cons_succ, List.getElem_cons_zero]))   | (refine wpT_call rfl rfl ?_; intro K hK)   | (refine wpT_late rfl rfl ?_; intro K hK)   | (refine wpT_any rfl rfl ?_; intro K hK)   | (refine wpT_skip rfl rfl ?_; (try simp only [Act.put, List.setIfInBounds_toArray, List.set_cons_zero, List.set_cons_succ, List.getElem_toArray, List.getElem_cons_succ, List.getElem_cons_zero]))
          | (go_at_call 23; (with_reducible refine (H1.out _).mono ?_); rintro e w' ⟨rfl, hb⟩; have HB := hide (HB.out.trans (hb.mono HB.out.size)))
          | (go_at_call 23; (with_reducible refine (H2.out _).mono ?_); rintro e w' ⟨rfl, hb⟩; have HB := hide (HB.out.trans (hb.mono HB.out.size)))
          | (go_at_call 23; (with_reducible refine (H3.out _).mono ?_); rintro e w' ⟨rfl, hb⟩; have HB := hide (HB.out.trans (hb.mono HB.out.size)))
          | (go_at_call 23; (with_reducible refine (H4.out _).mono ?_); rintro e w' ⟨rfl, hb⟩; have HB := hide (HB.out.trans (hb.mono HB.out.size)))
          | (go_at_call 23; (with_reducible refine (H5.out _).mono ?_); rintro e w' ⟨rfl, hb⟩; have HB := hide (HB.out.trans (hb.mono HB.out.size)))
          | (go_at_call 23; (with_reducible refine (H6.out _).mono ?_); rintro e w' ⟨rfl, hb⟩; have HB := hide (HB.out.trans (hb.mono HB.out.size)))
          | (go_at_call 23; (with_reducible refine (H7.out _).mono ?_); rintro e w' ⟨rfl, hb⟩; have HB := hide (HB.out.trans (hb.mono HB.out.size)))
          | (go_at_call 23; (with_reducible refine (U1.out _).mono ?_); rintro e w' ⟨rfl, hb⟩; have HB := hide (HB.out.trans (hb.mono HB.out.size)))
          | (go_at_call 23; (with_reducible refine (U2.out _).mono ?_); rintro e w' ⟨rfl, hb⟩; have HB := hide (HB.out.trans (hb.mono HB.out.size)))
          | (go_at_call 13; (with_reducible refine (HD.out _).mono ?_); rintro e w' ⟨rfl, rfl⟩)
          | (go_at_call 22; (with_reducible refine (HP.out _).mono ?_); rintro e w' ⟨rfl, hb⟩; have HB := hide (HB.out.trans (hb.mono HB.out.size)); clear hb)
          | (go_at_call 22; (with_reducible refine (HMM.out _).mono ?_); rintro e w' ⟨rfl, hb⟩; have HB := hide (HB.out.trans (hb.mono HB.out.size)); clear hb))
      go_ret2
      rw [HV.out]
      exact ⟨rfl, HB.out⟩
end Go.Proofs.YtbogjebipnmckaaDoor
