/-
  The walk of ScalarLow (printed by wip/gen/low.py).
-/
import Derived.Test.YtgofcefggdlalaaSj
namespace Go.Proofs.Ytgofcefggdlalaa
open Go.RowKit

@[irreducible] def tw : List UInt8 := List.replicate 32 0 ++ [1]
theorem tw_len : tw.length = 32 + 1 := by unfold tw; rfl
theorem app1 : bvs (List.replicate 32 0) ++ [Value.int .u8 1] = bvs tw := by unfold tw; rfl
theorem app2 (x y : List UInt8) : ([] ++ bvs x) ++ bvs y = bvs (x ++ y) := by simp [bvs]
theorem two_val : bval (redL tw) = 256 ^ 32 % Lq := by
  unfold tw
  rw [bval_redL, bval_append, bval_zeros, List.length_replicate, show bval [1] = 1 from rfl, Nat.mul_one, Nat.zero_add]
theorem redL_twice (x : List UInt8) : redL (redL x) = redL x := redL_stays _ (redL_len x) (may_redL x)
@[irreducible] def tL : List UInt8 := redL tw
theorem redL_tw : redL tw = tL := by unfold tL; rfl
theorem tL_len : tL.length = 32 := by unfold tL; exact redL_len _
theorem redL_halves' (x y : List UInt8) (hx : x.length = 32) : redL (x ++ y) = madL y tL x := redL_halves x y tL hx (by unfold tL; exact two_val)
set_option maxRecDepth 100000 in
set_option maxHeartbeats 1600000 in
theorem low_walk (A B : Option Addr) (c d : Nat) (l m : List UInt8) (w : World) (hr : Rd w (.slice A l.length c) 1 l.length (bvs l)) (hs : Rd w (.slice B m.length d) 1 m.length (bvs m)) :
    Calls Try.prog 4 #[.slice A l.length c, .slice B m.length d] w fun e w' => e = .returned (.bool true) ∧ Below w.heap.size w w' := by
  have HR := hide hr
  have HS := hide hs
  obtain ⟨n, hn⟩ : ∃ n, n = l.length := ⟨_, rfl⟩
  obtain ⟨k, hk⟩ : ∃ k, k = m.length := ⟨_, rfl⟩
  rw [← hn] at HR ⊢
  rw [← hk] at HS ⊢
  have HL := hide hn.symm
  have HK := hide hk.symm
  clear hr hs hn hk
  by_cases h100 : n > 100 ∨ k > 100
  · have d1 : decide (100 < (n : Int)) = decide (n > 100) := by rw [Bool.eq_iff_iff]; simp; omega
    have d2 : decide (100 < (k : Int)) = decide (k > 100) := by rw [Bool.eq_iff_iff]; simp; omega
    by_cases h1 : n > 100
    · rw [decide_eq_true h1] at d1
      clear d2 h100
      go_enter Try.func4, Try.ntmps4
      go_wp2_with (go_at_call 8; refine (awake_any _).mono ?_; rintro e w1 ⟨rfl, hb1⟩)
      go_ret
      exact ⟨rfl, hb1⟩
    · have h2 : k > 100 := by omega
      rw [decide_eq_false h1] at d1
      rw [decide_eq_true h2] at d2
      clear h100
      go_enter Try.func4, Try.ntmps4
      go_wp2_with (go_at_call 8; refine (awake_any _).mono ?_; rintro e w1 ⟨rfl, hb1⟩)
      go_ret
      exact ⟨rfl, hb1⟩
  · have h1 : ¬ n > 100 := by omega
    have h2 : ¬ k > 100 := by omega
    have d1 : decide (100 < (n : Int)) = false := by simp; omega
    have d2 : decide (100 < (k : Int)) = false := by simp; omega
    have n1 := hide h1
    have n2 := hide h2
    clear h1 h2 h100
    obtain ⟨X, hX⟩ : ∃ X, X = fullL l := ⟨_, rfl⟩
    obtain ⟨Y, hY⟩ : ∃ Y, Y = fullL m := ⟨_, rfl⟩
    have HXL : Hid (X.length = 32) := hide (by rw [hX]; exact fullL_len l)
    have HYL : Hid (Y.length = 32) := hide (by rw [hY]; exact fullL_len m)
    have HX := hide hX.symm
    have HY := hide hY.symm
    clear hX hY
    obtain ⟨RX, hRX⟩ : ∃ RX, RX = redL X := ⟨_, rfl⟩
    have HRX := hide hRX.symm
    have HRL : Hid (RX.length = 32) := hide (by rw [hRX]; exact redL_len X)
    have HMR : Hid (mayS RX = true) := hide (by rw [hRX]; exact may_redL X)
    have HRR : Hid (redL RX = RX) := hide (by rw [hRX]; exact redL_twice X)
    have HXY := hide (redL_halves' X Y HXL.out)
    obtain ⟨mb, hmb⟩ : ∃ mb, mayS X = mb := ⟨_, rfl⟩
    have HMX := hide hmb
    have hs : (RX == X) = mb := by
      cases mb
      · exact beq_eq_false_iff_ne.2 (by rw [hRX]; exact redL_moves X hmb)
      · rw [hRX, redL_stays X HXL.out hmb]; exact beq_self_eq_true X
    clear hRX hmb
    go_enter Try.func4, Try.ntmps4
    go_upto_region 5 with (first
      | (have _q := hb2; go_at_call 11; refine (redC HXL.out (by decide) (hr1.below hb2)).mono ?_; rintro e w3 ⟨A3, c3, rfl, hb3, hr3⟩; rw [HRX.out] at hr3)
      | (have _q := hb1; go_at_call 10; refine (fullC HK.out (by have := n2.out; omega) (HS.out.below hb1)).mono ?_; rintro e w2 ⟨A2, c2, rfl, hb2, hr2⟩; rw [HY.out] at hr2)
      | (go_at_call 10; refine (fullC HL.out (by have := n1.out; omega) HR.out).mono ?_; rintro e w1 ⟨A1, c1, rfl, hb1, hr1⟩; rw [HX.out] at hr1))
    have b12 := hb1.trans (hb2.mono hb1.size)
    have BB := hide (b12.trans (hb3.mono b12.size))
    have QX := hide ((hr1.below hb2).below hb3)
    have QY := hide (hr2.below hb3)
    have QR := hide hr3
    clear hr1 hr2 hr3 hb1 hb2 hb3 b12
    have B_1 := hide (show Below w.heap.size w (w3.drew) from ((St.init w NoB).call BB.out).drew.below)
    clear BB
    have rx_2 := hide (show Rd w3.drew (.slice A1 32 c1) 1 32 (bvs (X)) from QX.out)
    clear QX
    have ry_2 := hide (show Rd w3.drew (.slice A2 32 c2) 1 32 (bvs (Y)) from QY.out)
    clear QY
    have rr_2 := hide (show Rd w3.drew (.slice A3 32 c3) 1 32 (bvs (RX)) from QR.out)
    clear QR
    have vx_2 : ∀ x, From (w3.drew) x → (convert 22 9 (.slice A1 32 c1)).run Try.prog x = .ok (.string (strOf (X))) x := fun x hx => run_str Try.underlying22 Try.underlying5 Try.underlying9 (rx_2.out.below hx)
    have vr_2 : ∀ x, From (w3.drew) x → (convert 22 9 (.slice A3 32 c3)).run Try.prog x = .ok (.string (strOf (RX))) x := fun x hx => run_str Try.underlying22 Try.underlying5 Try.underlying9 (rr_2.out.below hx)
    refine wp_region_F (by kernel_rfl) ?_
    (refine wpG_take (i := 0) (v := ?_) rfl (by kernel_rfl) (by kernel_rfl) (by kernel_rfl) (fun _ _ _ h => h) (From.refl _) (Or.inl ⟨by rfl, ?_⟩) ?_; rotate_left; (intro wx hx; go_simp) <;> (with_reducible rfl); (try simp only [Act.put, List.setIfInBounds_toArray, List.set_cons_zero, List.set_cons_succ, List.getElem_toArray, List.getElem_cons_succ, List.getElem_cons_zero])); (refine wpG_take (i := 1) (v := ?_) rfl (by kernel_rfl) (by kernel_rfl) (by kernel_rfl) (fun _ _ _ h => h) (From.refl _) (Or.inl ⟨by rfl, ?_⟩) ?_; rotate_left; (intro wx hx; go_simp) <;> (with_reducible rfl); (try simp only [Act.put, List.setIfInBounds_toArray, List.set_cons_zero, List.set_cons_succ, List.getElem_toArray, List.getElem_cons_succ, List.getElem_cons_zero])); (refine wpG_take (i := 2) (v := ?_) rfl (by kernel_rfl) (by kernel_rfl) (by kernel_rfl) (fun _ _ _ h => h) (From.refl _) (Or.inl ⟨by rfl, ?_⟩) ?_; rotate_left; (intro wx hx; go_simp) <;> (with_reducible rfl); (try simp only [Act.put, List.setIfInBounds_toArray, List.set_cons_zero, List.set_cons_succ, List.getElem_toArray, List.getElem_cons_succ, List.getElem_cons_zero])); (refine wpG_take (i := 3) (v := ?_) rfl (by kernel_rfl) (by kernel_rfl) (by kernel_rfl) (fun _ _ _ h => h) (From.refl _) (Or.inl ⟨by rfl, ?_⟩) ?_; rotate_left; (intro wx hx; go_simp) <;> (with_reducible rfl); (try simp only [Act.put, List.setIfInBounds_toArray, List.set_cons_zero, List.set_cons_succ, List.getElem_toArray, List.getElem_cons_succ, List.getElem_cons_zero])); (refine wpG_take (i := 4) (v := ?_) rfl (by kernel_rfl) (by kernel_rfl) (by kernel_rfl) (fun _ _ _ h => h) (From.refl _) (Or.inl ⟨by rfl, ?_⟩) ?_; rotate_left; (intro wx hx; go_simp) <;> (with_reducible rfl); (try simp only [Act.put, List.setIfInBounds_toArray, List.set_cons_zero, List.set_cons_succ, List.getElem_toArray, List.getElem_cons_succ, List.getElem_cons_zero]))
    (refine wpG_one (i := 5) (by kernel_rfl) rfl ?_; intro K hK; (try simp only [Act.put, List.setIfInBounds_toArray, List.set_cons_zero, List.set_cons_succ, List.getElem_toArray, List.getElem_cons_succ, List.getElem_cons_zero]))
    refine step_call rfl rfl enMay rfl (mayC HMR.out HRL.out rr_2.out) ?_
    rintro e w4 ⟨rfl, hb4⟩
    refine ⟨_, rfl, hK (From w4) _ _ (From.next hb4) (From.refl _) ?_⟩
    clear hK K
    clear vx_2 vr_2
    (try simp only [Act.put, List.setIfInBounds_toArray, List.set_cons_zero, List.set_cons_succ, List.getElem_toArray, List.getElem_cons_succ, List.getElem_cons_zero])
    have B_3 := hide (show Below w.heap.size w (w4) from B_1.out.trans (hb4.mono B_1.out.size))
    clear B_1
    have rx_4 := hide (show Rd w4 (.slice A1 32 c1) 1 32 (bvs (X)) from rx_2.out.below hb4)
    clear rx_2
    have ry_4 := hide (show Rd w4 (.slice A2 32 c2) 1 32 (bvs (Y)) from ry_2.out.below hb4)
    clear ry_2
    have rr_4 := hide (show Rd w4 (.slice A3 32 c3) 1 32 (bvs (RX)) from rr_2.out.below hb4)
    clear rr_2
    have vx_4 : ∀ x, From (w4) x → (convert 22 9 (.slice A1 32 c1)).run Try.prog x = .ok (.string (strOf (X))) x := fun x hx => run_str Try.underlying22 Try.underlying5 Try.underlying9 (rx_4.out.below hx)
    have vr_4 : ∀ x, From (w4) x → (convert 22 9 (.slice A3 32 c3)).run Try.prog x = .ok (.string (strOf (RX))) x := fun x hx => run_str Try.underlying22 Try.underlying5 Try.underlying9 (rr_4.out.below hx)
    (refine wpG_take (i := 6) (v := ?_) rfl (by kernel_rfl) (by kernel_rfl) (by kernel_rfl) (fun _ _ _ h => h) (From.refl _) (Or.inl ⟨by rfl, ?_⟩) ?_; rotate_left; (intro wx hx; go_simp) <;> (with_reducible rfl); (try simp only [Act.put, List.setIfInBounds_toArray, List.set_cons_zero, List.set_cons_succ, List.getElem_toArray, List.getElem_cons_succ, List.getElem_cons_zero])); (refine wpG_take (i := 7) (v := ?_) rfl (by kernel_rfl) (by kernel_rfl) (by kernel_rfl) (fun _ _ _ h => h) (From.refl _) (Or.inl ⟨by rfl, ?_⟩) ?_; rotate_left; (intro wx hx; go_simp) <;> (with_reducible rfl); (try simp only [Act.put, List.setIfInBounds_toArray, List.set_cons_zero, List.set_cons_succ, List.getElem_toArray, List.getElem_cons_succ, List.getElem_cons_zero])); (refine wpG_take (i := 8) (v := ?_) rfl (by kernel_rfl) (by kernel_rfl) (by kernel_rfl) (fun _ _ _ h => h) (From.refl _) (Or.inl ⟨by rfl, ?_⟩) ?_; rotate_left; (intro wx hx; go_simp) <;> (with_reducible rfl); (try simp only [Act.put, List.setIfInBounds_toArray, List.set_cons_zero, List.set_cons_succ, List.getElem_toArray, List.getElem_cons_succ, List.getElem_cons_zero])); (refine wpG_take (i := 9) (v := ?_) rfl (by kernel_rfl) (by kernel_rfl) (by kernel_rfl) (fun _ _ _ h => h) (From.refl _) (Or.inl ⟨by rfl, ?_⟩) ?_; rotate_left; (intro wx hx; go_simp) <;> (with_reducible rfl); (try simp only [Act.put, List.setIfInBounds_toArray, List.set_cons_zero, List.set_cons_succ, List.getElem_toArray, List.getElem_cons_succ, List.getElem_cons_zero])); (refine wpG_take (i := 12) (v := ?_) rfl (by kernel_rfl) (by kernel_rfl) (by kernel_rfl) (fun _ _ _ h => h) (From.refl _) (Or.inl ⟨by rfl, ?_⟩) ?_; rotate_left; (intro wx hx; go_simp) <;> (with_reducible rfl); (try simp only [Act.put, List.setIfInBounds_toArray, List.set_cons_zero, List.set_cons_succ, List.getElem_toArray, List.getElem_cons_succ, List.getElem_cons_zero])); (refine wpG_take (i := 13) (v := ?_) rfl (by kernel_rfl) (by kernel_rfl) (by kernel_rfl) (fun _ _ _ h => h) (From.refl _) (Or.inl ⟨by rfl, ?_⟩) ?_; rotate_left; (intro wx hx; go_simp) <;> (with_reducible rfl); (try simp only [Act.put, List.setIfInBounds_toArray, List.set_cons_zero, List.set_cons_succ, List.getElem_toArray, List.getElem_cons_succ, List.getElem_cons_zero]))
    (refine wpG_one (i := 10) (by kernel_rfl) rfl ?_; intro K hK; (try simp only [Act.put, List.setIfInBounds_toArray, List.set_cons_zero, List.set_cons_succ, List.getElem_toArray, List.getElem_cons_succ, List.getElem_cons_zero]))
    refine step_call rfl rfl enReduce rfl (redC HRL.out (by decide) rr_4.out) ?_
    rintro e w5 ⟨A5, c5, rfl, hb5, hr5⟩
    rw [HRR.out] at hr5
    refine ⟨_, rfl, hK (From w5) _ _ (From.next hb5) (From.refl _) ?_⟩
    have q5 := hide hr5
    clear hr5
    clear hK K
    clear vx_4 vr_4
    (try simp only [Act.put, List.setIfInBounds_toArray, List.set_cons_zero, List.set_cons_succ, List.getElem_toArray, List.getElem_cons_succ, List.getElem_cons_zero])
    have B_5 := hide (show Below w.heap.size w (w5) from B_3.out.trans (hb5.mono B_3.out.size))
    clear B_3
    have rx_6 := hide (show Rd w5 (.slice A1 32 c1) 1 32 (bvs (X)) from rx_4.out.below hb5)
    clear rx_4
    have ry_6 := hide (show Rd w5 (.slice A2 32 c2) 1 32 (bvs (Y)) from ry_4.out.below hb5)
    clear ry_4
    have rr_6 := hide (show Rd w5 (.slice A3 32 c3) 1 32 (bvs (RX)) from rr_4.out.below hb5)
    clear rr_4
    have vx_6 : ∀ x, From (w5) x → (convert 22 9 (.slice A1 32 c1)).run Try.prog x = .ok (.string (strOf (X))) x := fun x hx => run_str Try.underlying22 Try.underlying5 Try.underlying9 (rx_6.out.below hx)
    have vr_6 : ∀ x, From (w5) x → (convert 22 9 (.slice A3 32 c3)).run Try.prog x = .ok (.string (strOf (RX))) x := fun x hx => run_str Try.underlying22 Try.underlying5 Try.underlying9 (rr_6.out.below hx)
    have vrr_6 : ∀ x, From (w5) x → (convert 22 9 (.slice A5 32 c5)).run Try.prog x = .ok (.string (strOf (RX))) x := fun x hx => run_str Try.underlying22 Try.underlying5 Try.underlying9 (q5.out.below hx)
    (refine wpG_take (i := 11) (v := ?_) rfl (by kernel_rfl) (by kernel_rfl) (by kernel_rfl) (fun _ _ _ h => h) (From.refl _) (Or.inl ⟨by rfl, ?_⟩) ?_; rotate_left; (intro wx hx; go_simp) <;> (with_reducible rfl); (try simp only [Act.put, List.setIfInBounds_toArray, List.set_cons_zero, List.set_cons_succ, List.getElem_toArray, List.getElem_cons_succ, List.getElem_cons_zero])); (refine wpG_take (i := 14) (v := ?_) rfl (by kernel_rfl) (by kernel_rfl) (by kernel_rfl) (fun _ _ _ h => h) (From.refl _) (Or.inl ⟨by rfl, ?_⟩) ?_; rotate_left; (intro wx hx; go_simp) <;> (with_reducible rfl); (try simp only [Act.put, List.setIfInBounds_toArray, List.set_cons_zero, List.set_cons_succ, List.getElem_toArray, List.getElem_cons_succ, List.getElem_cons_zero])); (refine wpG_take (i := 15) (v := ?_) rfl (by kernel_rfl) (by kernel_rfl) (by kernel_rfl) (fun _ _ _ h => h) (From.refl _) (Or.inl ⟨by rfl, ?_⟩) ?_; rotate_left; (intro wx hx; go_simp) <;> (with_reducible rfl); (try simp only [Act.put, List.setIfInBounds_toArray, List.set_cons_zero, List.set_cons_succ, List.getElem_toArray, List.getElem_cons_succ, List.getElem_cons_zero])); (refine wpG_take (i := 16) (v := ?_) rfl (by kernel_rfl) (by kernel_rfl) (by kernel_rfl) (fun _ _ _ h => h) (From.refl _) (Or.inl ⟨by rfl, ?_⟩) ?_; rotate_left; (intro wx hx; go_simp) <;> (with_reducible rfl); (try simp only [Act.put, List.setIfInBounds_toArray, List.set_cons_zero, List.set_cons_succ, List.getElem_toArray, List.getElem_cons_succ, List.getElem_cons_zero])); (refine wpG_take (i := 17) (v := ?_) rfl (by kernel_rfl) (by kernel_rfl) (by kernel_rfl) (fun _ _ _ h => h) (From.refl _) (Or.inl ⟨by rfl, ?_⟩) ?_; rotate_left; (intro wx hx; go_simp) <;> (with_reducible rfl); (try simp only [Act.put, List.setIfInBounds_toArray, List.set_cons_zero, List.set_cons_succ, List.getElem_toArray, List.getElem_cons_succ, List.getElem_cons_zero])); (refine wpG_take (i := 19) (v := ?_) rfl (by kernel_rfl) (by kernel_rfl) (by kernel_rfl) (fun _ _ _ h => h) (From.refl _) (Or.inl ⟨by rfl, ?_⟩) ?_; rotate_left; (intro wx hx; go_simp) <;> (with_reducible rfl); (try simp only [Act.put, List.setIfInBounds_toArray, List.set_cons_zero, List.set_cons_succ, List.getElem_toArray, List.getElem_cons_succ, List.getElem_cons_zero])); (refine wpG_take (i := 20) (v := ?_) rfl (by kernel_rfl) (by kernel_rfl) (by kernel_rfl) (fun _ _ _ h => h) (From.refl _) (Or.inl ⟨by rfl, ?_⟩) ?_; rotate_left; (intro wx hx; go_simp) <;> (with_reducible rfl); (try simp only [Act.put, List.setIfInBounds_toArray, List.set_cons_zero, List.set_cons_succ, List.getElem_toArray, List.getElem_cons_succ, List.getElem_cons_zero])); (refine wpG_take (i := 21) (v := ?_) rfl (by kernel_rfl) (by kernel_rfl) (by kernel_rfl) (fun _ _ _ h => h) (From.refl _) (Or.inl ⟨by rfl, ?_⟩) ?_; rotate_left; (intro wx hx; go_simp) <;> (with_reducible rfl); (try simp only [Act.put, List.setIfInBounds_toArray, List.set_cons_zero, List.set_cons_succ, List.getElem_toArray, List.getElem_cons_succ, List.getElem_cons_zero])); (refine wpG_take (i := 22) (v := ?_) rfl (by kernel_rfl) (by kernel_rfl) (by kernel_rfl) (fun _ _ _ h => h) (From.refl _) (Or.inl ⟨by rfl, ?_⟩) ?_; rotate_left; (intro wx hx; go_simp) <;> (with_reducible rfl); (try simp only [Act.put, List.setIfInBounds_toArray, List.set_cons_zero, List.set_cons_succ, List.getElem_toArray, List.getElem_cons_succ, List.getElem_cons_zero])); (refine wpG_take (i := 23) (v := ?_) rfl (by kernel_rfl) (by kernel_rfl) (by kernel_rfl) (fun _ _ _ h => h) (From.refl _) (Or.inl ⟨by rfl, ?_⟩) ?_; rotate_left; (intro wx hx; go_simp) <;> (with_reducible rfl); (try simp only [Act.put, List.setIfInBounds_toArray, List.set_cons_zero, List.set_cons_succ, List.getElem_toArray, List.getElem_cons_succ, List.getElem_cons_zero]))
    (refine wpG_one (i := 18) (by kernel_rfl) rfl ?_; intro K hK; (try simp only [Act.put, List.setIfInBounds_toArray, List.set_cons_zero, List.set_cons_succ, List.getElem_toArray, List.getElem_cons_succ, List.getElem_cons_zero]))
    refine step_call rfl rfl enMay rfl (mayC HMX.out HXL.out rx_6.out) ?_
    rintro e w6 ⟨rfl, hb6⟩
    refine ⟨_, rfl, hK (From w6) _ _ (From.next hb6) (From.refl _) ?_⟩
    clear hK K
    clear vx_6 vr_6 vrr_6
    (try simp only [Act.put, List.setIfInBounds_toArray, List.set_cons_zero, List.set_cons_succ, List.getElem_toArray, List.getElem_cons_succ, List.getElem_cons_zero])
    have B_7 := hide (show Below w.heap.size w (w6) from B_5.out.trans (hb6.mono B_5.out.size))
    clear B_5
    have rx_8 := hide (show Rd w6 (.slice A1 32 c1) 1 32 (bvs (X)) from rx_6.out.below hb6)
    clear rx_6
    have ry_8 := hide (show Rd w6 (.slice A2 32 c2) 1 32 (bvs (Y)) from ry_6.out.below hb6)
    clear ry_6
    have rr_8 := hide (show Rd w6 (.slice A3 32 c3) 1 32 (bvs (RX)) from rr_6.out.below hb6)
    clear rr_6
    have rrr_8 := hide (show Rd w6 (.slice A5 32 c5) 1 32 (bvs (RX)) from q5.out.below hb6)
    clear q5
    have vx_8 : ∀ x, From (w6) x → (convert 22 9 (.slice A1 32 c1)).run Try.prog x = .ok (.string (strOf (X))) x := fun x hx => run_str Try.underlying22 Try.underlying5 Try.underlying9 (rx_8.out.below hx)
    have vr_8 : ∀ x, From (w6) x → (convert 22 9 (.slice A3 32 c3)).run Try.prog x = .ok (.string (strOf (RX))) x := fun x hx => run_str Try.underlying22 Try.underlying5 Try.underlying9 (rr_8.out.below hx)
    have vrr_8 : ∀ x, From (w6) x → (convert 22 9 (.slice A5 32 c5)).run Try.prog x = .ok (.string (strOf (RX))) x := fun x hx => run_str Try.underlying22 Try.underlying5 Try.underlying9 (rrr_8.out.below hx)
    (refine wpG_take (i := 24) (v := ?_) rfl (by kernel_rfl) (by kernel_rfl) (by kernel_rfl) (fun _ _ _ h => h) (From.refl _) (Or.inl ⟨by rfl, ?_⟩) ?_; rotate_left; (intro wx hx; go_simp) <;> (with_reducible rfl); (try simp only [Act.put, List.setIfInBounds_toArray, List.set_cons_zero, List.set_cons_succ, List.getElem_toArray, List.getElem_cons_succ, List.getElem_cons_zero])); (refine wpG_take (i := 25) (v := ?_) rfl (by kernel_rfl) (by kernel_rfl) (by kernel_rfl) (fun _ _ _ h => h) (From.refl _) (Or.inl ⟨by rfl, ?_⟩) ?_; rotate_left; (intro wx hx; go_simp) <;> (with_reducible rfl); (try simp only [Act.put, List.setIfInBounds_toArray, List.set_cons_zero, List.set_cons_succ, List.getElem_toArray, List.getElem_cons_succ, List.getElem_cons_zero]))
    refine wpG_done (by kernel_rfl) ?_ _
    clear vx_8 vr_8 vrr_8
    go_upto_region 8 with (first
      | (at_builtin; refine wl_append1 rfl rfl tyB HSZ.out 0 rfl rfl (us := [.int .u8 1]) rfl rfl (by intro u hu; simp only [List.mem_singleton] at hu; subst hu; rfl) (by decide) (by decide) ?_; intro A4 c4 wb hSB; have hq4 := hSB.rd 0 rfl; rw [app1] at hq4; have HQ4 := hide hq4; have HSB := hide hSB; clear hSB hq4)
      | (refine wl_makeB (n := 32) rfl rfl Try.underlying22 infoB (St.init w6 NoB) rfl rfl (by decide) ?_; intro gz wa hSZ hbz; have HSZ := hide hSZ; clear hSZ)
      | (go_at_call 11; refine (redC tw_len (by decide) HQ4.out).mono ?_; rintro e wt ⟨A5, c5, rfl, hb5, hr5⟩; rw [redL_tw] at hr5; have HR5 := hide hr5; clear hr5))
    have hbw := HSB.out.below
    have B_9 := hide (show Below w.heap.size w (wt) from ((B_7.out.trans (hbw.mono B_7.out.size)).trans (hb5.mono (Nat.le_trans B_7.out.size hbw.size))))
    clear B_7
    have rx_10 := hide (show Rd wt (.slice A1 32 c1) 1 32 (bvs (X)) from (rx_8.out.below hbw).below hb5)
    clear rx_8
    have ry_10 := hide (show Rd wt (.slice A2 32 c2) 1 32 (bvs (Y)) from (ry_8.out.below hbw).below hb5)
    clear ry_8
    have rr_10 := hide (show Rd wt (.slice A3 32 c3) 1 32 (bvs (RX)) from (rr_8.out.below hbw).below hb5)
    clear rr_8
    have B_11 := hide (show Below w.heap.size w (wt.drew) from ((St.init w NoB).call B_9.out).drew.below)
    clear B_9
    have rx_12 := hide (show Rd wt.drew (.slice A1 32 c1) 1 32 (bvs (X)) from rx_10.out)
    clear rx_10
    have ry_12 := hide (show Rd wt.drew (.slice A2 32 c2) 1 32 (bvs (Y)) from ry_10.out)
    clear ry_10
    have rr_12 := hide (show Rd wt.drew (.slice A3 32 c3) 1 32 (bvs (RX)) from rr_10.out)
    clear rr_10
    have rt_12 := hide (show Rd wt.drew (.slice A5 32 c5) 1 32 (bvs (tL)) from HR5.out)
    clear HR5
    refine wp_region_F (by kernel_rfl) ?_
    (refine wpG_take (i := 1) (v := ?_) rfl (by kernel_rfl) (by kernel_rfl) (by kernel_rfl) (fun _ _ _ h => h) (From.refl _) (Or.inl ⟨by rfl, ?_⟩) ?_; rotate_left; (intro wx hx; go_simp) <;> (with_reducible rfl); (try simp only [Act.put, List.setIfInBounds_toArray, List.set_cons_zero, List.set_cons_succ, List.getElem_toArray, List.getElem_cons_succ, List.getElem_cons_zero])); (refine wpG_take (i := 3) (v := ?_) rfl (by kernel_rfl) (by kernel_rfl) (by kernel_rfl) (fun _ _ _ h => h) (From.refl _) (Or.inl ⟨by rfl, ?_⟩) ?_; rotate_left; (intro wx hx; go_simp) <;> (with_reducible rfl); (try simp only [Act.put, List.setIfInBounds_toArray, List.set_cons_zero, List.set_cons_succ, List.getElem_toArray, List.getElem_cons_succ, List.getElem_cons_zero])); (refine wpG_take (i := 7) (v := ?_) rfl (by kernel_rfl) (by kernel_rfl) (by kernel_rfl) (fun _ _ _ h => h) (From.refl _) (Or.inl ⟨by rfl, ?_⟩) ?_; rotate_left; (intro wx hx; go_simp) <;> (with_reducible rfl); (try simp only [Act.put, List.setIfInBounds_toArray, List.set_cons_zero, List.set_cons_succ, List.getElem_toArray, List.getElem_cons_succ, List.getElem_cons_zero])); (refine wpG_take (i := 8) (v := ?_) rfl (by kernel_rfl) (by kernel_rfl) (by kernel_rfl) (fun _ _ _ h => h) (From.refl _) (Or.inl ⟨by rfl, ?_⟩) ?_; rotate_left; (intro wx hx; go_simp) <;> (with_reducible rfl); (try simp only [Act.put, List.setIfInBounds_toArray, List.set_cons_zero, List.set_cons_succ, List.getElem_toArray, List.getElem_cons_succ, List.getElem_cons_zero])); (refine wpG_take (i := 9) (v := ?_) rfl (by kernel_rfl) (by kernel_rfl) (by kernel_rfl) (fun _ _ _ h => h) (From.refl _) (Or.inl ⟨by rfl, ?_⟩) ?_; rotate_left; (intro wx hx; go_simp) <;> (with_reducible rfl); (try simp only [Act.put, List.setIfInBounds_toArray, List.set_cons_zero, List.set_cons_succ, List.getElem_toArray, List.getElem_cons_succ, List.getElem_cons_zero]))
    (refine wpG_one (i := 0) (by kernel_rfl) rfl ?_; intro K hK; (try simp only [Act.put, List.setIfInBounds_toArray, List.set_cons_zero, List.set_cons_succ, List.getElem_toArray, List.getElem_cons_succ, List.getElem_cons_zero]))
    refine step_lit (us := []) (n := 0) (e := 5) rfl (fun _ => by go_simp) rfl (by decide) ?_
    intro g6 w6 hS6
    refine hK (From (wt.drew)) _ _ (fun _ h => h) hS6.below ?_
    clear hK K
    (try simp only [Act.put, List.setIfInBounds_toArray, List.set_cons_zero, List.set_cons_succ, List.getElem_toArray, List.getElem_cons_succ, List.getElem_cons_zero])
    (refine wpG_one (i := 2) (by kernel_rfl) rfl ?_; intro K hK; (try simp only [Act.put, List.setIfInBounds_toArray, List.set_cons_zero, List.set_cons_succ, List.getElem_toArray, List.getElem_cons_succ, List.getElem_cons_zero]))
    refine step_append rfl rfl tyB hS6 0 rfl rfl rfl (rx_12.out.st hS6) (one_bvs _) (by decide) (by decide) ?_
    intro A7 c7 w7 hS7
    refine hK (From (wt.drew)) _ _ (fun _ h => h) hS7.below ?_
    clear hK K
    (try simp only [Act.put, List.setIfInBounds_toArray, List.set_cons_zero, List.set_cons_succ, List.getElem_toArray, List.getElem_cons_succ, List.getElem_cons_zero])
    (refine wpG_one (i := 4) (by kernel_rfl) rfl ?_; intro K hK; (try simp only [Act.put, List.setIfInBounds_toArray, List.set_cons_zero, List.set_cons_succ, List.getElem_toArray, List.getElem_cons_succ, List.getElem_cons_zero]))
    refine step_append rfl rfl tyB hS7 0 rfl rfl rfl (ry_12.out.st hS7) (one_bvs _) (by decide) (by decide) ?_
    intro A8 c8 w8 hS8
    refine hK (From (wt.drew)) _ _ (fun _ h => h) hS8.below ?_
    clear hK K
    (try simp only [Act.put, List.setIfInBounds_toArray, List.set_cons_zero, List.set_cons_succ, List.getElem_toArray, List.getElem_cons_succ, List.getElem_cons_zero])
    have hq8 := hS8.rd 0 rfl
    rw [app2] at hq8
    (refine wpG_one (i := 5) (by kernel_rfl) rfl ?_; intro K hK; (try simp only [Act.put, List.setIfInBounds_toArray, List.set_cons_zero, List.set_cons_succ, List.getElem_toArray, List.getElem_cons_succ, List.getElem_cons_zero]))
    refine step_call rfl rfl enReduce rfl (redC (by rw [List.length_append, HXL.out, HYL.out]) (by decide) hq8) ?_
    rintro e w9 ⟨A9, c9, rfl, hbq, hr9⟩
    have hb9 := hS8.below.trans (hbq.mono hS8.below.size)
    rw [HXY.out] at hr9
    refine ⟨_, rfl, hK (From w9) _ _ (From.next hb9) (From.refl _) ?_⟩
    have q9 := hide hr9
    clear hr9
    clear hK K
    (try simp only [Act.put, List.setIfInBounds_toArray, List.set_cons_zero, List.set_cons_succ, List.getElem_toArray, List.getElem_cons_succ, List.getElem_cons_zero])
    have B_13 := hide (show Below w.heap.size w (w9) from B_11.out.trans (hb9.mono B_11.out.size))
    clear B_11
    have rx_14 := hide (show Rd w9 (.slice A1 32 c1) 1 32 (bvs (X)) from rx_12.out.below hb9)
    clear rx_12
    have ry_14 := hide (show Rd w9 (.slice A2 32 c2) 1 32 (bvs (Y)) from ry_12.out.below hb9)
    clear ry_12
    have rr_14 := hide (show Rd w9 (.slice A3 32 c3) 1 32 (bvs (RX)) from rr_12.out.below hb9)
    clear rr_12
    have rt_14 := hide (show Rd w9 (.slice A5 32 c5) 1 32 (bvs (tL)) from rt_12.out.below hb9)
    clear rt_12
    have vp_14 : ∀ x, From (w9) x → (convert 22 9 (.slice A9 32 c9)).run Try.prog x = .ok (.string (strOf (madL Y tL X))) x := fun x hx => run_str Try.underlying22 Try.underlying5 Try.underlying9 (q9.out.below hx)
    (refine wpG_take (i := 6) (v := ?_) rfl (by kernel_rfl) (by kernel_rfl) (by kernel_rfl) (fun _ _ _ h => h) (From.refl _) (Or.inl ⟨by rfl, ?_⟩) ?_; rotate_left; (intro wx hx; go_simp) <;> (with_reducible rfl); (try simp only [Act.put, List.setIfInBounds_toArray, List.set_cons_zero, List.set_cons_succ, List.getElem_toArray, List.getElem_cons_succ, List.getElem_cons_zero]))
    (refine wpG_one (i := 10) (by kernel_rfl) rfl ?_; intro K hK; (try simp only [Act.put, List.setIfInBounds_toArray, List.set_cons_zero, List.set_cons_succ, List.getElem_toArray, List.getElem_cons_succ, List.getElem_cons_zero]))
    refine step_call rfl rfl enMulAdd rfl (madC HYL.out tL_len HXL.out ry_14.out rt_14.out rx_14.out) ?_
    rintro e w10 ⟨A10, c10, rfl, hb10, hr10⟩
    refine ⟨_, rfl, hK (From w10) _ _ (From.next hb10) (From.refl _) ?_⟩
    have q10 := hide hr10
    clear hr10
    clear hK K
    clear vp_14
    (try simp only [Act.put, List.setIfInBounds_toArray, List.set_cons_zero, List.set_cons_succ, List.getElem_toArray, List.getElem_cons_succ, List.getElem_cons_zero])
    have B_15 := hide (show Below w.heap.size w (w10) from B_13.out.trans (hb10.mono B_13.out.size))
    clear B_13
    have rx_16 := hide (show Rd w10 (.slice A1 32 c1) 1 32 (bvs (X)) from rx_14.out.below hb10)
    clear rx_14
    have ry_16 := hide (show Rd w10 (.slice A2 32 c2) 1 32 (bvs (Y)) from ry_14.out.below hb10)
    clear ry_14
    have rr_16 := hide (show Rd w10 (.slice A3 32 c3) 1 32 (bvs (RX)) from rr_14.out.below hb10)
    clear rr_14
    have rt_16 := hide (show Rd w10 (.slice A5 32 c5) 1 32 (bvs (tL)) from rt_14.out.below hb10)
    clear rt_14
    have rp_16 := hide (show Rd w10 (.slice A9 32 c9) 1 32 (bvs (madL Y tL X)) from q9.out.below hb10)
    clear q9
    have vp_16 : ∀ x, From (w10) x → (convert 22 9 (.slice A9 32 c9)).run Try.prog x = .ok (.string (strOf (madL Y tL X))) x := fun x hx => run_str Try.underlying22 Try.underlying5 Try.underlying9 (rp_16.out.below hx)
    have vpp_16 : ∀ x, From (w10) x → (convert 22 9 (.slice A10 32 c10)).run Try.prog x = .ok (.string (strOf (madL Y tL X))) x := fun x hx => run_str Try.underlying22 Try.underlying5 Try.underlying9 (q10.out.below hx)
    (refine wpG_take (i := 11) (v := ?_) rfl (by kernel_rfl) (by kernel_rfl) (by kernel_rfl) (fun _ _ _ h => h) (From.refl _) (Or.inl ⟨by rfl, ?_⟩) ?_; rotate_left; (intro wx hx; go_simp) <;> (with_reducible rfl); (try simp only [Act.put, List.setIfInBounds_toArray, List.set_cons_zero, List.set_cons_succ, List.getElem_toArray, List.getElem_cons_succ, List.getElem_cons_zero])); (refine wpG_take (i := 12) (v := ?_) rfl (by kernel_rfl) (by kernel_rfl) (by kernel_rfl) (fun _ _ _ h => h) (From.refl _) (Or.inl ⟨by rfl, ?_⟩) ?_; rotate_left; (intro wx hx; go_simp) <;> (with_reducible rfl); (try simp only [Act.put, List.setIfInBounds_toArray, List.set_cons_zero, List.set_cons_succ, List.getElem_toArray, List.getElem_cons_succ, List.getElem_cons_zero])); (refine wpG_take (i := 13) (v := ?_) rfl (by kernel_rfl) (by kernel_rfl) (by kernel_rfl) (fun _ _ _ h => h) (From.refl _) (Or.inl ⟨by rfl, ?_⟩) ?_; rotate_left; (intro wx hx; go_simp) <;> (with_reducible rfl); (try simp only [Act.put, List.setIfInBounds_toArray, List.set_cons_zero, List.set_cons_succ, List.getElem_toArray, List.getElem_cons_succ, List.getElem_cons_zero]))
    (refine wpG_one (i := 14) (by kernel_rfl) rfl ?_; intro K hK; (try simp only [Act.put, List.setIfInBounds_toArray, List.set_cons_zero, List.set_cons_succ, List.getElem_toArray, List.getElem_cons_succ, List.getElem_cons_zero]))
    refine step_makeB (n := 65) rfl rfl Try.underlying22 infoB (St.init (w10) NoB) rfl rfl (by decide) ?_
    intro g11 w11 hS11 hb11
    refine hK (From w11) _ _ (From.next hb11) (From.refl _) ?_
    have q11 := hide (hS11.rd 0 rfl)
    clear hK K
    clear vp_16 vpp_16
    (try simp only [Act.put, List.setIfInBounds_toArray, List.set_cons_zero, List.set_cons_succ, List.getElem_toArray, List.getElem_cons_succ, List.getElem_cons_zero])
    have B_17 := hide (show Below w.heap.size w (w11) from B_15.out.trans (hb11.mono B_15.out.size))
    clear B_15
    have rx_18 := hide (show Rd w11 (.slice A1 32 c1) 1 32 (bvs (X)) from rx_16.out.below hb11)
    clear rx_16
    have ry_18 := hide (show Rd w11 (.slice A2 32 c2) 1 32 (bvs (Y)) from ry_16.out.below hb11)
    clear ry_16
    have rr_18 := hide (show Rd w11 (.slice A3 32 c3) 1 32 (bvs (RX)) from rr_16.out.below hb11)
    clear rr_16
    have rt_18 := hide (show Rd w11 (.slice A5 32 c5) 1 32 (bvs (tL)) from rt_16.out.below hb11)
    clear rt_16
    have rp_18 := hide (show Rd w11 (.slice A9 32 c9) 1 32 (bvs (madL Y tL X)) from rp_16.out.below hb11)
    clear rp_16
    have rpp_18 := hide (show Rd w11 (.slice A10 32 c10) 1 32 (bvs (madL Y tL X)) from q10.out.below hb11)
    clear q10
    (refine wpG_one (i := 15) (by kernel_rfl) rfl ?_; intro K hK; (try simp only [Act.put, List.setIfInBounds_toArray, List.set_cons_zero, List.set_cons_succ, List.getElem_toArray, List.getElem_cons_succ, List.getElem_cons_zero]))
    refine step_call rfl rfl enReduce rfl (reduce_nil (some ⟨g11, 0, none⟩) 65 65 _ (by decide)) ?_
    rintro e w12 ⟨rfl, rfl⟩
    refine ⟨_, rfl, hK (From w11) _ _ (fun _ h => h) (From.refl _) ?_⟩
    clear hK K
    (try simp only [Act.put, List.setIfInBounds_toArray, List.set_cons_zero, List.set_cons_succ, List.getElem_toArray, List.getElem_cons_succ, List.getElem_cons_zero])
    (refine wpG_take (i := 16) (v := ?_) rfl (by kernel_rfl) (by kernel_rfl) (by kernel_rfl) (fun _ _ _ h => h) (From.refl _) (Or.inl ⟨by rfl, ?_⟩) ?_; rotate_left; (intro wx hx; go_simp) <;> (with_reducible rfl); (try simp only [Act.put, List.setIfInBounds_toArray, List.set_cons_zero, List.set_cons_succ, List.getElem_toArray, List.getElem_cons_succ, List.getElem_cons_zero])); (refine wpG_take (i := 17) (v := ?_) rfl (by kernel_rfl) (by kernel_rfl) (by kernel_rfl) (fun _ _ _ h => h) (From.refl _) (Or.inl ⟨by rfl, ?_⟩) ?_; rotate_left; (intro wx hx; go_simp) <;> (with_reducible rfl); (try simp only [Act.put, List.setIfInBounds_toArray, List.set_cons_zero, List.set_cons_succ, List.getElem_toArray, List.getElem_cons_succ, List.getElem_cons_zero])); (refine wpG_take (i := 18) (v := ?_) rfl (by kernel_rfl) (by kernel_rfl) (by kernel_rfl) (fun _ _ _ h => h) (From.refl _) (Or.inl ⟨by rfl, ?_⟩) ?_; rotate_left; (intro wx hx; go_simp) <;> (with_reducible rfl); (try simp only [Act.put, List.setIfInBounds_toArray, List.set_cons_zero, List.set_cons_succ, List.getElem_toArray, List.getElem_cons_succ, List.getElem_cons_zero])); (refine wpG_take (i := 19) (v := ?_) rfl (by kernel_rfl) (by kernel_rfl) (by kernel_rfl) (fun _ _ _ h => h) (From.refl _) (Or.inl ⟨by rfl, ?_⟩) ?_; rotate_left; (intro wx hx; go_simp) <;> (with_reducible rfl); (try simp only [Act.put, List.setIfInBounds_toArray, List.set_cons_zero, List.set_cons_succ, List.getElem_toArray, List.getElem_cons_succ, List.getElem_cons_zero]))
    (refine wpG_one (i := 20) (by kernel_rfl) rfl ?_; intro K hK; (try simp only [Act.put, List.setIfInBounds_toArray, List.set_cons_zero, List.set_cons_succ, List.getElem_toArray, List.getElem_cons_succ, List.getElem_cons_zero]))
    refine step_call rfl rfl enAwake rfl (awake_any _) ?_
    rintro e w13 ⟨rfl, hb13⟩
    refine ⟨_, rfl, hK (From w13) _ _ (From.next hb13) (From.refl _) ?_⟩
    clear hK K
    (try simp only [Act.put, List.setIfInBounds_toArray, List.set_cons_zero, List.set_cons_succ, List.getElem_toArray, List.getElem_cons_succ, List.getElem_cons_zero])
    have B_19 := hide (show Below w.heap.size w (w13) from B_17.out.trans (hb13.mono B_17.out.size))
    clear B_17
    have rx_20 := hide (show Rd w13 (.slice A1 32 c1) 1 32 (bvs (X)) from rx_18.out.below hb13)
    clear rx_18
    have ry_20 := hide (show Rd w13 (.slice A2 32 c2) 1 32 (bvs (Y)) from ry_18.out.below hb13)
    clear ry_18
    have rr_20 := hide (show Rd w13 (.slice A3 32 c3) 1 32 (bvs (RX)) from rr_18.out.below hb13)
    clear rr_18
    have rt_20 := hide (show Rd w13 (.slice A5 32 c5) 1 32 (bvs (tL)) from rt_18.out.below hb13)
    clear rt_18
    have rp_20 := hide (show Rd w13 (.slice A9 32 c9) 1 32 (bvs (madL Y tL X)) from rp_18.out.below hb13)
    clear rp_18
    have rpp_20 := hide (show Rd w13 (.slice A10 32 c10) 1 32 (bvs (madL Y tL X)) from rpp_18.out.below hb13)
    clear rpp_18
    have rz_20 := hide (show Rd w13 (.slice (some ⟨g11, 0, none⟩) 65 65) 1 65 (bvs (List.replicate 65 0)) from q11.out.below hb13)
    clear q11
    (refine wpG_take (i := 21) (v := ?_) rfl (by kernel_rfl) (by kernel_rfl) (by kernel_rfl) (fun _ _ _ h => h) (From.refl _) (Or.inl ⟨by rfl, ?_⟩) ?_; rotate_left; (intro wx hx; go_simp) <;> (with_reducible rfl); (try simp only [Act.put, List.setIfInBounds_toArray, List.set_cons_zero, List.set_cons_succ, List.getElem_toArray, List.getElem_cons_succ, List.getElem_cons_zero])); (refine wpG_take (i := 22) (v := ?_) rfl (by kernel_rfl) (by kernel_rfl) (by kernel_rfl) (fun _ _ _ h => h) (From.refl _) (Or.inl ⟨by rfl, ?_⟩) ?_; rotate_left; (intro wx hx; go_simp) <;> (with_reducible rfl); (try simp only [Act.put, List.setIfInBounds_toArray, List.set_cons_zero, List.set_cons_succ, List.getElem_toArray, List.getElem_cons_succ, List.getElem_cons_zero]))
    refine wpG_done (by kernel_rfl) ?_ _
    go_wp2_with fail
    go_ret
    exact ⟨rfl, B_19.out⟩
end Go.Proofs.Ytgofcefggdlalaa
