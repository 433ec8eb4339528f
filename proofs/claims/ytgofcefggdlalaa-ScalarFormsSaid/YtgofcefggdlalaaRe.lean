/-
  The walk of ScalarForms.
-/
import Derived.Test.YtgofcefggdlalaaRd
namespace Go.Proofs.Ytgofcefggdlalaa
open Go.RowKit
set_option linter.unusedSimpArgs false

theorem enMayQ (args : Array Value) (w : World) : (callFunc 15 args).run Try.prog w = .ok (.enter 15 args) w := by kernel_rfl
theorem enAddQ (args : Array Value) (w : World) : (callFunc 17 args).run Try.prog w = .ok (.enter 17 args) w := by kernel_rfl
theorem enMulAddQ (args : Array Value) (w : World) : (callFunc 18 args).run Try.prog w = .ok (.enter 18 args) w := by kernel_rfl
theorem enClampQ (args : Array Value) (w : World) : (callFunc 19 args).run Try.prog w = .ok (.enter 19 args) w := by kernel_rfl
set_option maxRecDepth 100000 in
set_option maxHeartbeats 8000000 in
theorem scalarForms_walk (A1 A2 A3 : Option Addr) (q1 q2 q3 : Nat) (l1 l2 l3 : List UInt8) (w : World) (hr1 : Rd w (.slice A1 l1.length q1) 1 l1.length (bvs l1)) (hr2 : Rd w (.slice A2 l2.length q2) 1 l2.length (bvs l2)) (hr3 : Rd w (.slice A3 l3.length q3) 1 l3.length (bvs l3)) :
    Calls Try.prog 7 #[.slice A1 l1.length q1, .slice A2 l2.length q2, .slice A3 l3.length q3] w fun e w' => e = .returned (.bool true) ∧ Below w.heap.size w w' := by
  have R1 := hide hr1
  have R2 := hide hr2
  have R3 := hide hr3
  obtain ⟨n1, hn1⟩ : ∃ n, n = l1.length := ⟨_, rfl⟩
  obtain ⟨n2, hn2⟩ : ∃ n, n = l2.length := ⟨_, rfl⟩
  obtain ⟨n3, hn3⟩ : ∃ n, n = l3.length := ⟨_, rfl⟩
  rw [← hn1] at R1 ⊢
  rw [← hn2] at R2 ⊢
  rw [← hn3] at R3 ⊢
  have L1 := hide hn1.symm
  have L2 := hide hn2.symm
  have L3 := hide hn3.symm
  clear hr1 hr2 hr3 hn1 hn2 hn3
  by_cases h1 : n1 > 100
  · have d1 : decide (100 < (n1 : Int)) = true := by simp; omega
    clear h1
    go_enter Try.func7, Try.ntmps7
    go_wp2_with (go_at_call 8; refine (awake_any _).mono ?_; rintro e w1 ⟨rfl, hb1⟩)
    go_ret
    exact ⟨rfl, hb1⟩
  · have d1 : decide (100 < (n1 : Int)) = false := by simp; omega
    by_cases h2 : n2 > 100
    · have d2 : decide (100 < (n2 : Int)) = true := by simp; omega
      clear h1 h2
      go_enter Try.func7, Try.ntmps7
      go_wp2_with (go_at_call 8; refine (awake_any _).mono ?_; rintro e w1 ⟨rfl, hb1⟩)
      go_ret
      exact ⟨rfl, hb1⟩
    · have d2 : decide (100 < (n2 : Int)) = false := by simp; omega
      by_cases h3 : n3 > 100
      · have d3 : decide (100 < (n3 : Int)) = true := by simp; omega
        clear h1 h2 h3
        go_enter Try.func7, Try.ntmps7
        go_wp2_with (go_at_call 8; refine (awake_any _).mono ?_; rintro e w1 ⟨rfl, hb1⟩)
        go_ret
        exact ⟨rfl, hb1⟩
      · have d3 : decide (100 < (n3 : Int)) = false := by simp; omega
        clear h1 h2 h3
        obtain ⟨bb, hbb⟩ : ∃ b, mayS l1 = b := ⟨_, rfl⟩
        have hq := fun W h => mayR A1 n1 q1 l1 W L1.out h
        rw [hbb] at hq
        have HM := hide hbb
        have HQ := hide hq
        clear hbb hq
        go_enter Try.func7, Try.ntmps7
        go_upto_region 3 with fail
        refine wp_region_T [(0, 1), (2, 1), (1, 2), (3, 2), (4, 1), (5, 1), (6, 1), (9, 1), (7, 2), (8, 0), (10, 2), (11, 0), (12, 1), (13, 1), (14, 1), (15, 1), (16, 1), (19, 1), (20, 1), (17, 2), (18, 0), (21, 2), (22, 0), (23, 1), (24, 1), (25, 1), (26, 1), (27, 1), (28, 1), (31, 1), (32, 1), (33, 1), (29, 2), (30, 0), (34, 2), (35, 0), (36, 1), (37, 1), (38, 1), (39, 1), (42, 1), (40, 2), (41, 0), (43, 2), (44, 0), (45, 1), (46, 1), (47, 1), (48, 2), (49, 1), (50, 1)] (by kernel_rfl) (by kernel_rfl) (fun _ _ _ _ h => h) ?_
        have HS := hide (St.init w NoB).drew
        generalize w.drew = wd at HS ⊢
        (refine wpT_pure (v := ?_) rfl (by kernel_rfl) ?_ ?_; rotate_left; (intro wx; go_simp; try go_bits) <;> (with_reducible rfl)); (try simp only [Act.put, List.setIfInBounds_toArray, List.set_cons_zero, List.set_cons_succ, List.getElem_toArray, List.getElem_cons_succ, List.getElem_cons_zero])
        (refine wpT_pure (v := ?_) rfl (by kernel_rfl) ?_ ?_; rotate_left; (intro wx; go_simp; try go_bits) <;> (with_reducible rfl)); (try simp only [Act.put, List.setIfInBounds_toArray, List.set_cons_zero, List.set_cons_succ, List.getElem_toArray, List.getElem_cons_succ, List.getElem_cons_zero])
        refine wpT_callF rfl (by kernel_rfl) rfl enMay rfl (mayC HM.out L1.out (R1.out.st HS.out)) ?_
        rintro e v0 ⟨rfl, hb⟩
        refine ⟨_, rfl, hb, ?_⟩
        have HS := hide (HS.out.call hb); clear hb
        (try simp only [Act.put, List.setIfInBounds_toArray, List.set_cons_zero, List.set_cons_succ, List.getElem_toArray, List.getElem_cons_succ, List.getElem_cons_zero])
        refine wpT_callF rfl (by kernel_rfl) rfl enMayQ rfl (HQ.out _ (R1.out.st HS.out)) ?_
        rintro e v1 ⟨rfl, hb⟩
        refine ⟨_, rfl, hb, ?_⟩
        have HS := hide (HS.out.call hb); clear hb
        (try simp only [Act.put, List.setIfInBounds_toArray, List.set_cons_zero, List.set_cons_succ, List.getElem_toArray, List.getElem_cons_succ, List.getElem_cons_zero])
        (refine wpT_pure (v := ?_) rfl (by kernel_rfl) ?_ ?_; rotate_left; (intro wx; go_simp; try go_bits) <;> (with_reducible rfl)); (try simp only [Act.put, List.setIfInBounds_toArray, List.set_cons_zero, List.set_cons_succ, List.getElem_toArray, List.getElem_cons_succ, List.getElem_cons_zero])
        (refine wpT_pure (v := ?_) rfl (by kernel_rfl) ?_ ?_; rotate_left; (intro wx; go_simp; try go_bits) <;> (with_reducible rfl)); (try simp only [Act.put, List.setIfInBounds_toArray, List.set_cons_zero, List.set_cons_succ, List.getElem_toArray, List.getElem_cons_succ, List.getElem_cons_zero])
        (refine wpT_pure (v := ?_) rfl (by kernel_rfl) ?_ ?_; rotate_left; (intro wx; go_simp; try go_bits) <;> (with_reducible rfl)); (try simp only [Act.put, List.setIfInBounds_toArray, List.set_cons_zero, List.set_cons_succ, List.getElem_toArray, List.getElem_cons_succ, List.getElem_cons_zero])
        (refine wpT_pure (v := ?_) rfl (by kernel_rfl) ?_ ?_; rotate_left; (intro wx; go_simp; try go_bits) <;> (with_reducible rfl)); (try simp only [Act.put, List.setIfInBounds_toArray, List.set_cons_zero, List.set_cons_succ, List.getElem_toArray, List.getElem_cons_succ, List.getElem_cons_zero])
        refine wpT_callF rfl (by kernel_rfl) rfl enReduce rfl (redP _ _ _ l1 _ L1.out (R1.out.st HS.out)) ?_
        rintro e v2 ⟨B2, n2, d2, rfl, hb, hr⟩
        refine ⟨_, rfl, hb, ?_⟩
        have HS := hide (HS.out.call hb); have HV2 := hide hr; clear hb hr
        have cv2 : ∀ x, From v2 x → (convert 22 9 (.slice B2 n2 d2)).run Try.prog x = .ok (.string (strOf (redT l1))) x := fun x hx => run_str Try.underlying22 Try.underlying5 Try.underlying9 (HV2.out.below hx)
        (try simp only [Act.put, List.setIfInBounds_toArray, List.set_cons_zero, List.set_cons_succ, List.getElem_toArray, List.getElem_cons_succ, List.getElem_cons_zero])
        (refine wpT_read (v := ?_) rfl (by kernel_rfl) ?_ ?_; rotate_left; (intro wx hx; go_simp; try go_bits) <;> (with_reducible rfl)); (try simp only [Act.put, List.setIfInBounds_toArray, List.set_cons_zero, List.set_cons_succ, List.getElem_toArray, List.getElem_cons_succ, List.getElem_cons_zero])
        refine wpT_callF rfl (by kernel_rfl) rfl enReduceR rfl (redQ _ _ _ l1 _ L1.out (R1.out.st HS.out)) ?_
        rintro e v3 ⟨B3, n3, d3, rfl, hb, hr⟩
        refine ⟨_, rfl, hb, ?_⟩
        have HS := hide (HS.out.call hb); have HV3 := hide hr; clear hb hr
        have cv3 : ∀ x, From v3 x → (convert 22 9 (.slice B3 n3 d3)).run Try.prog x = .ok (.string (strOf (redT l1))) x := fun x hx => run_str Try.underlying22 Try.underlying5 Try.underlying9 (HV3.out.below hx)
        (try simp only [Act.put, List.setIfInBounds_toArray, List.set_cons_zero, List.set_cons_succ, List.getElem_toArray, List.getElem_cons_succ, List.getElem_cons_zero])
        (refine wpT_read (v := ?_) rfl (by kernel_rfl) ?_ ?_; rotate_left; (intro wx hx; go_simp; try go_bits) <;> (with_reducible rfl)); (try simp only [Act.put, List.setIfInBounds_toArray, List.set_cons_zero, List.set_cons_succ, List.getElem_toArray, List.getElem_cons_succ, List.getElem_cons_zero])
        (refine wpT_pure (v := ?_) rfl (by kernel_rfl) ?_ ?_; rotate_left; (intro wx; go_simp; try go_bits) <;> (with_reducible rfl)); (try simp only [Act.put, List.setIfInBounds_toArray, List.set_cons_zero, List.set_cons_succ, List.getElem_toArray, List.getElem_cons_succ, List.getElem_cons_zero])
        (refine wpT_pure (v := ?_) rfl (by kernel_rfl) ?_ ?_; rotate_left; (intro wx; go_simp; try go_bits) <;> (with_reducible rfl)); (try simp only [Act.put, List.setIfInBounds_toArray, List.set_cons_zero, List.set_cons_succ, List.getElem_toArray, List.getElem_cons_succ, List.getElem_cons_zero])
        (refine wpT_pure (v := ?_) rfl (by kernel_rfl) ?_ ?_; rotate_left; (intro wx; go_simp; try go_bits) <;> (with_reducible rfl)); (try simp only [Act.put, List.setIfInBounds_toArray, List.set_cons_zero, List.set_cons_succ, List.getElem_toArray, List.getElem_cons_succ, List.getElem_cons_zero])
        (refine wpT_pure (v := ?_) rfl (by kernel_rfl) ?_ ?_; rotate_left; (intro wx; go_simp; try go_bits) <;> (with_reducible rfl)); (try simp only [Act.put, List.setIfInBounds_toArray, List.set_cons_zero, List.set_cons_succ, List.getElem_toArray, List.getElem_cons_succ, List.getElem_cons_zero])
        (refine wpT_pure (v := ?_) rfl (by kernel_rfl) ?_ ?_; rotate_left; (intro wx; go_simp; try go_bits) <;> (with_reducible rfl)); (try simp only [Act.put, List.setIfInBounds_toArray, List.set_cons_zero, List.set_cons_succ, List.getElem_toArray, List.getElem_cons_succ, List.getElem_cons_zero])
        (refine wpT_pure (v := ?_) rfl (by kernel_rfl) ?_ ?_; rotate_left; (intro wx; go_simp; try go_bits) <;> (with_reducible rfl)); (try simp only [Act.put, List.setIfInBounds_toArray, List.set_cons_zero, List.set_cons_succ, List.getElem_toArray, List.getElem_cons_succ, List.getElem_cons_zero])
        (refine wpT_pure (v := ?_) rfl (by kernel_rfl) ?_ ?_; rotate_left; (intro wx; go_simp; try go_bits) <;> (with_reducible rfl)); (try simp only [Act.put, List.setIfInBounds_toArray, List.set_cons_zero, List.set_cons_succ, List.getElem_toArray, List.getElem_cons_succ, List.getElem_cons_zero])
        refine wpT_callF rfl (by kernel_rfl) rfl enAdd rfl (addP _ _ _ _ _ _ l1 l2 _ L1.out L2.out (R1.out.st HS.out) (R2.out.st HS.out)) ?_
        rintro e v4 ⟨B4, n4, d4, rfl, hb, hr⟩
        refine ⟨_, rfl, hb, ?_⟩
        have HS := hide (HS.out.call hb); have HV4 := hide hr; clear hb hr
        have cv4 : ∀ x, From v4 x → (convert 22 9 (.slice B4 n4 d4)).run Try.prog x = .ok (.string (strOf (madT l1 oneL l2))) x := fun x hx => run_str Try.underlying22 Try.underlying5 Try.underlying9 (HV4.out.below hx)
        (try simp only [Act.put, List.setIfInBounds_toArray, List.set_cons_zero, List.set_cons_succ, List.getElem_toArray, List.getElem_cons_succ, List.getElem_cons_zero])
        (refine wpT_read (v := ?_) rfl (by kernel_rfl) ?_ ?_; rotate_left; (intro wx hx; go_simp; try go_bits) <;> (with_reducible rfl)); (try simp only [Act.put, List.setIfInBounds_toArray, List.set_cons_zero, List.set_cons_succ, List.getElem_toArray, List.getElem_cons_succ, List.getElem_cons_zero])
        refine wpT_callF rfl (by kernel_rfl) rfl enAddQ rfl (addQ _ _ _ _ _ _ l1 l2 _ L1.out L2.out (R1.out.st HS.out) (R2.out.st HS.out)) ?_
        rintro e v5 ⟨B5, n5, d5, rfl, hb, hr⟩
        refine ⟨_, rfl, hb, ?_⟩
        have HS := hide (HS.out.call hb); have HV5 := hide hr; clear hb hr
        have cv5 : ∀ x, From v5 x → (convert 22 9 (.slice B5 n5 d5)).run Try.prog x = .ok (.string (strOf (madT l1 oneL l2))) x := fun x hx => run_str Try.underlying22 Try.underlying5 Try.underlying9 (HV5.out.below hx)
        (try simp only [Act.put, List.setIfInBounds_toArray, List.set_cons_zero, List.set_cons_succ, List.getElem_toArray, List.getElem_cons_succ, List.getElem_cons_zero])
        (refine wpT_read (v := ?_) rfl (by kernel_rfl) ?_ ?_; rotate_left; (intro wx hx; go_simp; try go_bits) <;> (with_reducible rfl)); (try simp only [Act.put, List.setIfInBounds_toArray, List.set_cons_zero, List.set_cons_succ, List.getElem_toArray, List.getElem_cons_succ, List.getElem_cons_zero])
        (refine wpT_pure (v := ?_) rfl (by kernel_rfl) ?_ ?_; rotate_left; (intro wx; go_simp; try go_bits) <;> (with_reducible rfl)); (try simp only [Act.put, List.setIfInBounds_toArray, List.set_cons_zero, List.set_cons_succ, List.getElem_toArray, List.getElem_cons_succ, List.getElem_cons_zero])
        (refine wpT_pure (v := ?_) rfl (by kernel_rfl) ?_ ?_; rotate_left; (intro wx; go_simp; try go_bits) <;> (with_reducible rfl)); (try simp only [Act.put, List.setIfInBounds_toArray, List.set_cons_zero, List.set_cons_succ, List.getElem_toArray, List.getElem_cons_succ, List.getElem_cons_zero])
        (refine wpT_pure (v := ?_) rfl (by kernel_rfl) ?_ ?_; rotate_left; (intro wx; go_simp; try go_bits) <;> (with_reducible rfl)); (try simp only [Act.put, List.setIfInBounds_toArray, List.set_cons_zero, List.set_cons_succ, List.getElem_toArray, List.getElem_cons_succ, List.getElem_cons_zero])
        (refine wpT_pure (v := ?_) rfl (by kernel_rfl) ?_ ?_; rotate_left; (intro wx; go_simp; try go_bits) <;> (with_reducible rfl)); (try simp only [Act.put, List.setIfInBounds_toArray, List.set_cons_zero, List.set_cons_succ, List.getElem_toArray, List.getElem_cons_succ, List.getElem_cons_zero])
        (refine wpT_pure (v := ?_) rfl (by kernel_rfl) ?_ ?_; rotate_left; (intro wx; go_simp; try go_bits) <;> (with_reducible rfl)); (try simp only [Act.put, List.setIfInBounds_toArray, List.set_cons_zero, List.set_cons_succ, List.getElem_toArray, List.getElem_cons_succ, List.getElem_cons_zero])
        (refine wpT_pure (v := ?_) rfl (by kernel_rfl) ?_ ?_; rotate_left; (intro wx; go_simp; try go_bits) <;> (with_reducible rfl)); (try simp only [Act.put, List.setIfInBounds_toArray, List.set_cons_zero, List.set_cons_succ, List.getElem_toArray, List.getElem_cons_succ, List.getElem_cons_zero])
        (refine wpT_pure (v := ?_) rfl (by kernel_rfl) ?_ ?_; rotate_left; (intro wx; go_simp; try go_bits) <;> (with_reducible rfl)); (try simp only [Act.put, List.setIfInBounds_toArray, List.set_cons_zero, List.set_cons_succ, List.getElem_toArray, List.getElem_cons_succ, List.getElem_cons_zero])
        (refine wpT_pure (v := ?_) rfl (by kernel_rfl) ?_ ?_; rotate_left; (intro wx; go_simp; try go_bits) <;> (with_reducible rfl)); (try simp only [Act.put, List.setIfInBounds_toArray, List.set_cons_zero, List.set_cons_succ, List.getElem_toArray, List.getElem_cons_succ, List.getElem_cons_zero])
        (refine wpT_pure (v := ?_) rfl (by kernel_rfl) ?_ ?_; rotate_left; (intro wx; go_simp; try go_bits) <;> (with_reducible rfl)); (try simp only [Act.put, List.setIfInBounds_toArray, List.set_cons_zero, List.set_cons_succ, List.getElem_toArray, List.getElem_cons_succ, List.getElem_cons_zero])
        refine wpT_callF rfl (by kernel_rfl) rfl enMulAdd rfl (madP _ _ _ _ _ _ _ _ _ l1 l2 l3 _ L1.out L2.out L3.out (R1.out.st HS.out) (R2.out.st HS.out) (R3.out.st HS.out)) ?_
        rintro e v6 ⟨B6, n6, d6, rfl, hb, hr⟩
        refine ⟨_, rfl, hb, ?_⟩
        have HS := hide (HS.out.call hb); have HV6 := hide hr; clear hb hr
        have cv6 : ∀ x, From v6 x → (convert 22 9 (.slice B6 n6 d6)).run Try.prog x = .ok (.string (strOf (madT l1 l2 l3))) x := fun x hx => run_str Try.underlying22 Try.underlying5 Try.underlying9 (HV6.out.below hx)
        (try simp only [Act.put, List.setIfInBounds_toArray, List.set_cons_zero, List.set_cons_succ, List.getElem_toArray, List.getElem_cons_succ, List.getElem_cons_zero])
        (refine wpT_read (v := ?_) rfl (by kernel_rfl) ?_ ?_; rotate_left; (intro wx hx; go_simp; try go_bits) <;> (with_reducible rfl)); (try simp only [Act.put, List.setIfInBounds_toArray, List.set_cons_zero, List.set_cons_succ, List.getElem_toArray, List.getElem_cons_succ, List.getElem_cons_zero])
        refine wpT_callF rfl (by kernel_rfl) rfl enMulAddQ rfl (madQ _ _ _ _ _ _ _ _ _ l1 l2 l3 _ L1.out L2.out L3.out (R1.out.st HS.out) (R2.out.st HS.out) (R3.out.st HS.out)) ?_
        rintro e v7 ⟨B7, n7, d7, rfl, hb, hr⟩
        refine ⟨_, rfl, hb, ?_⟩
        have HS := hide (HS.out.call hb); have HV7 := hide hr; clear hb hr
        have cv7 : ∀ x, From v7 x → (convert 22 9 (.slice B7 n7 d7)).run Try.prog x = .ok (.string (strOf (madT l1 l2 l3))) x := fun x hx => run_str Try.underlying22 Try.underlying5 Try.underlying9 (HV7.out.below hx)
        (try simp only [Act.put, List.setIfInBounds_toArray, List.set_cons_zero, List.set_cons_succ, List.getElem_toArray, List.getElem_cons_succ, List.getElem_cons_zero])
        (refine wpT_read (v := ?_) rfl (by kernel_rfl) ?_ ?_; rotate_left; (intro wx hx; go_simp; try go_bits) <;> (with_reducible rfl)); (try simp only [Act.put, List.setIfInBounds_toArray, List.set_cons_zero, List.set_cons_succ, List.getElem_toArray, List.getElem_cons_succ, List.getElem_cons_zero])
        (refine wpT_pure (v := ?_) rfl (by kernel_rfl) ?_ ?_; rotate_left; (intro wx; go_simp; try go_bits) <;> (with_reducible rfl)); (try simp only [Act.put, List.setIfInBounds_toArray, List.set_cons_zero, List.set_cons_succ, List.getElem_toArray, List.getElem_cons_succ, List.getElem_cons_zero])
        (refine wpT_pure (v := ?_) rfl (by kernel_rfl) ?_ ?_; rotate_left; (intro wx; go_simp; try go_bits) <;> (with_reducible rfl)); (try simp only [Act.put, List.setIfInBounds_toArray, List.set_cons_zero, List.set_cons_succ, List.getElem_toArray, List.getElem_cons_succ, List.getElem_cons_zero])
        (refine wpT_pure (v := ?_) rfl (by kernel_rfl) ?_ ?_; rotate_left; (intro wx; go_simp; try go_bits) <;> (with_reducible rfl)); (try simp only [Act.put, List.setIfInBounds_toArray, List.set_cons_zero, List.set_cons_succ, List.getElem_toArray, List.getElem_cons_succ, List.getElem_cons_zero])
        (refine wpT_pure (v := ?_) rfl (by kernel_rfl) ?_ ?_; rotate_left; (intro wx; go_simp; try go_bits) <;> (with_reducible rfl)); (try simp only [Act.put, List.setIfInBounds_toArray, List.set_cons_zero, List.set_cons_succ, List.getElem_toArray, List.getElem_cons_succ, List.getElem_cons_zero])
        (refine wpT_pure (v := ?_) rfl (by kernel_rfl) ?_ ?_; rotate_left; (intro wx; go_simp; try go_bits) <;> (with_reducible rfl)); (try simp only [Act.put, List.setIfInBounds_toArray, List.set_cons_zero, List.set_cons_succ, List.getElem_toArray, List.getElem_cons_succ, List.getElem_cons_zero])
        refine wpT_callF rfl (by kernel_rfl) rfl enClamp rfl (clP _ _ _ l1 _ L1.out (R1.out.st HS.out)) ?_
        rintro e v8 ⟨B8, n8, d8, rfl, hb, hr⟩
        refine ⟨_, rfl, hb, ?_⟩
        have HS := hide (HS.out.call hb); have HV8 := hide hr; clear hb hr
        have cv8 : ∀ x, From v8 x → (convert 22 9 (.slice B8 n8 d8)).run Try.prog x = .ok (.string (strOf (clampT l1))) x := fun x hx => run_str Try.underlying22 Try.underlying5 Try.underlying9 (HV8.out.below hx)
        (try simp only [Act.put, List.setIfInBounds_toArray, List.set_cons_zero, List.set_cons_succ, List.getElem_toArray, List.getElem_cons_succ, List.getElem_cons_zero])
        (refine wpT_read (v := ?_) rfl (by kernel_rfl) ?_ ?_; rotate_left; (intro wx hx; go_simp; try go_bits) <;> (with_reducible rfl)); (try simp only [Act.put, List.setIfInBounds_toArray, List.set_cons_zero, List.set_cons_succ, List.getElem_toArray, List.getElem_cons_succ, List.getElem_cons_zero])
        refine wpT_callF rfl (by kernel_rfl) rfl enClampQ rfl (clQ _ _ _ l1 _ L1.out (R1.out.st HS.out)) ?_
        rintro e v9 ⟨B9, n9, d9, rfl, hb, hr⟩
        refine ⟨_, rfl, hb, ?_⟩
        have HS := hide (HS.out.call hb); have HV9 := hide hr; clear hb hr
        have cv9 : ∀ x, From v9 x → (convert 22 9 (.slice B9 n9 d9)).run Try.prog x = .ok (.string (strOf (clampT l1))) x := fun x hx => run_str Try.underlying22 Try.underlying5 Try.underlying9 (HV9.out.below hx)
        (try simp only [Act.put, List.setIfInBounds_toArray, List.set_cons_zero, List.set_cons_succ, List.getElem_toArray, List.getElem_cons_succ, List.getElem_cons_zero])
        (refine wpT_read (v := ?_) rfl (by kernel_rfl) ?_ ?_; rotate_left; (intro wx hx; go_simp; try go_bits) <;> (with_reducible rfl)); (try simp only [Act.put, List.setIfInBounds_toArray, List.set_cons_zero, List.set_cons_succ, List.getElem_toArray, List.getElem_cons_succ, List.getElem_cons_zero])
        (refine wpT_pure (v := ?_) rfl (by kernel_rfl) ?_ ?_; rotate_left; (intro wx; go_simp; try go_bits) <;> (with_reducible rfl)); (try simp only [Act.put, List.setIfInBounds_toArray, List.set_cons_zero, List.set_cons_succ, List.getElem_toArray, List.getElem_cons_succ, List.getElem_cons_zero])
        (refine wpT_pure (v := ?_) rfl (by kernel_rfl) ?_ ?_; rotate_left; (intro wx; go_simp; try go_bits) <;> (with_reducible rfl)); (try simp only [Act.put, List.setIfInBounds_toArray, List.set_cons_zero, List.set_cons_succ, List.getElem_toArray, List.getElem_cons_succ, List.getElem_cons_zero])
        (refine wpT_pure (v := ?_) rfl (by kernel_rfl) ?_ ?_; rotate_left; (intro wx; go_simp; try go_bits) <;> (with_reducible rfl)); (try simp only [Act.put, List.setIfInBounds_toArray, List.set_cons_zero, List.set_cons_succ, List.getElem_toArray, List.getElem_cons_succ, List.getElem_cons_zero])
        refine wpT_callF rfl (by kernel_rfl) rfl enAwake rfl (awake_any _) ?_
        rintro e v10 ⟨rfl, hb⟩
        refine ⟨_, rfl, hb, ?_⟩
        have HS := hide (HS.out.call hb); clear hb
        (try simp only [Act.put, List.setIfInBounds_toArray, List.set_cons_zero, List.set_cons_succ, List.getElem_toArray, List.getElem_cons_succ, List.getElem_cons_zero])
        (refine wpT_pure (v := ?_) rfl (by kernel_rfl) ?_ ?_; rotate_left; (intro wx; go_simp; try go_bits) <;> (with_reducible rfl)); (try simp only [Act.put, List.setIfInBounds_toArray, List.set_cons_zero, List.set_cons_succ, List.getElem_toArray, List.getElem_cons_succ, List.getElem_cons_zero])
        (refine wpT_pure (v := ?_) rfl (by kernel_rfl) ?_ ?_; rotate_left; (intro wx; go_simp; try go_bits) <;> (with_reducible rfl)); (try simp only [Act.put, List.setIfInBounds_toArray, List.set_cons_zero, List.set_cons_succ, List.getElem_toArray, List.getElem_cons_succ, List.getElem_cons_zero])
        refine wpT_nil ?_
        go_wp2_with fail
        go_ret
        exact ⟨rfl, HS.out.below⟩
end Go.Proofs.Ytgofcefggdlalaa
