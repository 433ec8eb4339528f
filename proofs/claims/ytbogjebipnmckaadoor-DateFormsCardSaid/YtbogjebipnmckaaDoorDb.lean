/-
  Layer 8: Days, the program's and the page's.
-/
import Derived.Test.YtbogjebipnmckaaDoorDa
namespace Go.Proofs.YtbogjebipnmckaaDoor
open Go.RowKit
set_option linter.unusedSimpArgs false

theorem dayB_yes {y m d : Int} (a : 0 ≤ y) (b : y ≤ 9999) (c : 1 ≤ m) (e : m ≤ 12) (f : 1 ≤ d) (g : d ≤ moD y (m - 1).toNat) : dayB y m d = true := by unfold dayB; exact decide_eq_true ⟨a, b, c, e, f, g⟩
theorem dayB_no {y m d : Int} (h : ¬ (0 ≤ y ∧ y ≤ 9999 ∧ 1 ≤ m ∧ m ≤ 12 ∧ 1 ≤ d ∧ d ≤ moD y (m - 1).toNat)) : dayB y m d = false := by unfold dayB; exact decide_eq_false h
/-- What Days answers. -/
def dayV (y m d : Int) : Value := if dayB y m d = true then .tuple #[.int .i64 (dayN y m d), .bool true] else .tuple #[.int .i64 0, .bool false]
theorem lpN_bd (y : Int) (h0 : 0 ≤ y) (h : y ≤ 10000) : 0 ≤ lpN y ∧ lpN y ≤ 2500 := by
  unfold lpN
  split <;> omega
theorem lpN_1970 : lpN 1970 = 478 := by unfold lpN; rfl
set_option maxRecDepth 100000 in
set_option maxHeartbeats 4000000 in
theorem days_any (y m d : Int) (w : World) : Calls Tryd.prog 12 #[.int .i64 y, .int .i64 m, .int .i64 d] w fun e w' => e = .returned (dayV y m d) ∧ w = w' := by
  by_cases h0 : 0 ≤ y
  · have g0 : decide (y < 0) = false := by simp; omega
    by_cases h1 : y ≤ 9999
    · have g1 : decide (9999 < y) = false := by simp; omega
      by_cases h2 : 1 ≤ m
      · have g2 : decide (m < 1) = false := by simp; omega
        by_cases h3 : m ≤ 12
        · have g3 : decide (12 < m) = false := by simp; omega
          by_cases h4 : 1 ≤ d
          · have g4 : decide (d < 1) = false := by simp; omega
            obtain ⟨K, hK⟩ : ∃ K : Nat, m = (K : Int) + 1 := ⟨(m - 1).toNat, by omega⟩
            subst hK
            have k12 : K < 12 := by omega
            have kk : (K : Int) < 12 := by omega
            have hmb := moD_bd y K k12
            have eK : ((K : Int) + 1 - 1).toNat = K := by omega
            obtain ⟨mm, hmm⟩ : ∃ t, t = moD y K := ⟨_, rfl⟩
            have HC := hide (fun W => month_any y K W k12)
            rw [← hmm] at HC hmb
            by_cases h5 : d ≤ mm
            · have hv : dayV y ((K : Int) + 1) d = .tuple #[.int .i64 (dayN y ((K : Int) + 1) d), .bool true] := by
                unfold dayV
                rw [if_pos (dayB_yes h0 h1 h2 h3 h4 (by rw [eK, ← hmm]; exact h5))]
              rw [hv]
              have HV := hide (show dayN y ((K : Int) + 1) d = yrs y - 719528 + d - 1 + cuM y K by unfold dayN; rw [eK])
              have g5 : decide (mm < d) = false := by simp; omega
              have HK := hide k12
              have hyb := yrs_bd y h0 (by omega)
              have hcb := cuM_bd y
              have HCB := hide hcb
              have HY0 := hide h0
              have HY1 := hide h1
              have HYC := hide (fun W => years_any y W h0 (by omega))
              have HYE := hide (Eq.refl (yrs y))
              obtain ⟨Y, hY⟩ : ∃ t, t = yrs y := ⟨_, rfl⟩
              rw [← hY] at HV hyb HYC
              obtain ⟨y0, y1⟩ := hyb
              obtain ⟨mb0, mb1⟩ := hmb
              clear hv hmm eK hcb k12 hY
              go_enter Tryd.func12, Tryd.ntmps12
              go_wp2_with (first
                | (go_at_call 24; (with_reducible refine (HC.out _).mono ?_); rintro e w' ⟨rfl, rfl⟩)
                | (go_at_call 25; (with_reducible refine (HYC.out _).mono ?_); rintro e w' ⟨rfl, rfl⟩))
              go_loop [8, 9] (fun n k => ∃ j : Nat, j ≤ K ∧ k = .int .i64 ((j : Int) + 1) ∧ n = .int .i64 (Y - 719528 + d - 1 + cuM y j)) (fun _ k => (12 - intOf k).toNat)
              case atStart => exact ⟨0, by omega, rfl, by (have hye := HYE.out); ((simp only [cuM, Int.add_zero]) <;> go_num)⟩
              case round =>
                obtain ⟨j, hj, rfl, rfl⟩ := hrel
                have hcj := HCB.out j (by have := HK.out; omega)
                have hmj := moD_bd y j (by have := HK.out; omega)
                have HJ := hide (fun W => month_any y j W (by have := HK.out; omega))
                have hcs : cuM y (j + 1) = cuM y j + moD y j := rfl
                have HCS := hide hcs
                obtain ⟨c, hc⟩ : ∃ t, t = cuM y j := ⟨_, rfl⟩
                obtain ⟨mj, hm⟩ : ∃ t, t = moD y j := ⟨_, rfl⟩
                rw [← hc] at hcj HCS
                rw [← hm] at hmj HJ HCS
                have HHC := hide hc
                simp only [← hc]
                obtain ⟨c0, c1⟩ := hcj
                obtain ⟨m0, m1⟩ := hmj
                have jj : (j : Int) ≤ 12 := by have := HK.out; omega
                clear hcs hc hm
                by_cases hlt : j < K
                · have dj : decide ((j : Int) + 1 < (K : Int) + 1) = true := by simp; omega
                  have dj2 : decide ((j : Int) < (K : Int)) = true := by simp; omega
                  have jK : (j : Int) < (K : Int) := by omega
                  go_wp2_with (go_at_call 24; (with_reducible refine (HJ.out _).mono ?_); rintro e w' ⟨rfl, rfl⟩)
                  go_round
                  case rel => exact ⟨j + 1, by omega, by go_num, by rw [HCS.out]; go_num⟩
                  case measure => (simp [intOf]) <;> omega
                · obtain rfl : K = j := by omega
                  go_wp2_with fail
                  go_ret2
                  exact ⟨by rw [HV.out, ← HHC.out]; rfl, rfl⟩
            · have hv : dayV y ((K : Int) + 1) d = .tuple #[.int .i64 0, .bool false] := by
                unfold dayV
                rw [if_neg (by rw [dayB_no (fun h => h5 (by rw [hmm, ← eK]; exact h.2.2.2.2.2))]; exact Bool.false_ne_true)]
              rw [hv]
              have g5 : decide (mm < d) = true := by simp; omega
              clear hv hmm eK h5 k12 hmb
              go_enter Tryd.func12, Tryd.ntmps12
              go_wp2_with (go_at_call 24; (with_reducible refine (HC.out _).mono ?_); rintro e w' ⟨rfl, rfl⟩)
              go_ret2
              exact ⟨rfl, rfl⟩
          · have hv : dayV y m d = .tuple #[.int .i64 0, .bool false] := by
              unfold dayV
              rw [if_neg (by rw [dayB_no (by omega)]; exact Bool.false_ne_true)]
            rw [hv]
            have g4 : decide (d < 1) = true := by simp; omega
            clear hv
            go_enter Tryd.func12, Tryd.ntmps12
            go_wp2_with fail
            go_ret2
            exact ⟨rfl, rfl⟩
        · have hv : dayV y m d = .tuple #[.int .i64 0, .bool false] := by
            unfold dayV
            rw [if_neg (by rw [dayB_no (by omega)]; exact Bool.false_ne_true)]
          rw [hv]
          have g3 : decide (12 < m) = true := by simp; omega
          clear hv
          go_enter Tryd.func12, Tryd.ntmps12
          go_wp2_with fail
          go_ret2
          exact ⟨rfl, rfl⟩
      · have hv : dayV y m d = .tuple #[.int .i64 0, .bool false] := by
          unfold dayV
          rw [if_neg (by rw [dayB_no (by omega)]; exact Bool.false_ne_true)]
        rw [hv]
        have g2 : decide (m < 1) = true := by simp; omega
        clear hv
        go_enter Tryd.func12, Tryd.ntmps12
        go_wp2_with fail
        go_ret2
        exact ⟨rfl, rfl⟩
    · have hv : dayV y m d = .tuple #[.int .i64 0, .bool false] := by
        unfold dayV
        rw [if_neg (by rw [dayB_no (by omega)]; exact Bool.false_ne_true)]
      rw [hv]
      have g1 : decide (9999 < y) = true := by simp; omega
      clear hv
      go_enter Tryd.func12, Tryd.ntmps12
      go_wp2_with fail
      go_ret2
      exact ⟨rfl, rfl⟩
  · have hv : dayV y m d = .tuple #[.int .i64 0, .bool false] := by
      unfold dayV
      rw [if_neg (by rw [dayB_no (by omega)]; exact Bool.false_ne_true)]
    rw [hv]
    have g0 : decide (y < 0) = true := by simp; omega
    clear hv
    go_enter Tryd.func12, Tryd.ntmps12
    go_wp2_with fail
    go_ret2
    exact ⟨rfl, rfl⟩
set_option maxRecDepth 100000 in
set_option maxHeartbeats 4000000 in
theorem daysR_any (y m d : Int) (w : World) : Calls Tryd.prog 13 #[.int .i64 y, .int .i64 m, .int .i64 d] w fun e w' => e = .returned (dayV y m d) ∧ w = w' := by
  by_cases h0 : 0 ≤ y
  · have g0 : decide (y < 0) = false := by simp; omega
    by_cases h1 : y ≤ 9999
    · have g1 : decide (9999 < y) = false := by simp; omega
      by_cases h2 : 1 ≤ m
      · have g2 : decide (m < 1) = false := by simp; omega
        by_cases h3 : m ≤ 12
        · have g3 : decide (12 < m) = false := by simp; omega
          by_cases h4 : 1 ≤ d
          · have g4 : decide (d < 1) = false := by simp; omega
            obtain ⟨K, hK⟩ : ∃ K : Nat, m = (K : Int) + 1 := ⟨(m - 1).toNat, by omega⟩
            subst hK
            have k12 : K < 12 := by omega
            have kk : (K : Int) < 12 := by omega
            have hmb := moD_bd y K k12
            have eK : ((K : Int) + 1 - 1).toNat = K := by omega
            obtain ⟨mm, hmm⟩ : ∃ t, t = moD y K := ⟨_, rfl⟩
            have HC := hide (fun W => monthR_any y K W k12)
            rw [← hmm] at HC hmb
            by_cases h5 : d ≤ mm
            · have hv : dayV y ((K : Int) + 1) d = .tuple #[.int .i64 (dayN y ((K : Int) + 1) d), .bool true] := by
                unfold dayV
                rw [if_pos (dayB_yes h0 h1 h2 h3 h4 (by rw [eK, ← hmm]; exact h5))]
              rw [hv]
              have HV := hide (show dayN y ((K : Int) + 1) d = yrs y - 719528 + d - 1 + cuM y K by unfold dayN; rw [eK])
              have g5 : decide (mm < d) = false := by simp; omega
              have HK := hide k12
              have hyb := yrs_bd y h0 (by omega)
              have hcb := cuM_bd y
              have HCB := hide hcb
              have HY0 := hide h0
              have HY1 := hide h1
              have HYC := hide (fun W => func0_any y W h0 (by omega))
              have HF := hide (fun W => func0_any 1970 W (by omega) (by omega))
              rw [lpN_1970] at HF
              have HYE := hide (yrs_lpN y h0)
              obtain ⟨L, hL⟩ : ∃ t, t = lpN y := ⟨_, rfl⟩
              have hlb := lpN_bd y h0 (by omega)
              rw [← hL] at HYC HYE hlb
              obtain ⟨l0, l1⟩ := hlb
              clear hL
              obtain ⟨Y, hY⟩ : ∃ t, t = yrs y := ⟨_, rfl⟩
              rw [← hY] at HV hyb HYE
              obtain ⟨y0, y1⟩ := hyb
              obtain ⟨mb0, mb1⟩ := hmb
              clear hv hmm eK hcb k12 hY
              go_enter Tryd.func13, Tryd.ntmps13
              go_wp2_with (first
                | (go_at_call 26; (with_reducible refine (HC.out _).mono ?_); rintro e w' ⟨rfl, rfl⟩)
                | (go_at_call 27; (with_reducible refine (HYC.out _).mono ?_); rintro e w' ⟨rfl, rfl⟩)
                | (go_at_call 27; (with_reducible refine (HF.out _).mono ?_); rintro e w' ⟨rfl, rfl⟩))
              go_loop [9, 10] (fun n k => ∃ j : Nat, j ≤ K ∧ k = .int .i64 ((j : Int) + 1) ∧ n = .int .i64 (Y - 719528 + cuM y j)) (fun _ k => (12 - intOf k).toNat)
              case atStart => exact ⟨0, by omega, rfl, by (have hye := HYE.out); ((simp only [cuM, Int.add_zero]) <;> go_num)⟩
              case round =>
                obtain ⟨j, hj, rfl, rfl⟩ := hrel
                have hcj := HCB.out j (by have := HK.out; omega)
                have hmj := moD_bd y j (by have := HK.out; omega)
                have HJ := hide (fun W => monthR_any y j W (by have := HK.out; omega))
                have hcs : cuM y (j + 1) = cuM y j + moD y j := rfl
                have HCS := hide hcs
                obtain ⟨c, hc⟩ : ∃ t, t = cuM y j := ⟨_, rfl⟩
                obtain ⟨mj, hm⟩ : ∃ t, t = moD y j := ⟨_, rfl⟩
                rw [← hc] at hcj HCS
                rw [← hm] at hmj HJ HCS
                have HHC := hide hc
                simp only [← hc]
                obtain ⟨c0, c1⟩ := hcj
                obtain ⟨m0, m1⟩ := hmj
                have jj : (j : Int) ≤ 12 := by have := HK.out; omega
                clear hcs hc hm
                by_cases hlt : j < K
                · have dj : decide ((j : Int) + 1 < (K : Int) + 1) = true := by simp; omega
                  have dj2 : decide ((j : Int) < (K : Int)) = true := by simp; omega
                  have jK : (j : Int) < (K : Int) := by omega
                  go_wp2_with (go_at_call 26; (with_reducible refine (HJ.out _).mono ?_); rintro e w' ⟨rfl, rfl⟩)
                  go_round
                  case rel => exact ⟨j + 1, by omega, by go_num, by rw [HCS.out]; go_num⟩
                  case measure => (simp [intOf]) <;> omega
                · obtain rfl : K = j := by omega
                  go_wp2_with fail
                  go_ret2
                  exact ⟨by rw [HV.out, ← HHC.out]; exact (show Ending.returned (.tuple #[.int .i64 (Y - 719528 + c + (d - 1)), .bool true]) = _ from by rw [show Y - 719528 + c + (d - 1) = Y - 719528 + d - 1 + c from by omega]), rfl⟩
            · have hv : dayV y ((K : Int) + 1) d = .tuple #[.int .i64 0, .bool false] := by
                unfold dayV
                rw [if_neg (by rw [dayB_no (fun h => h5 (by rw [hmm, ← eK]; exact h.2.2.2.2.2))]; exact Bool.false_ne_true)]
              rw [hv]
              have g5 : decide (mm < d) = true := by simp; omega
              clear hv hmm eK h5 k12 hmb
              go_enter Tryd.func13, Tryd.ntmps13
              go_wp2_with (go_at_call 26; (with_reducible refine (HC.out _).mono ?_); rintro e w' ⟨rfl, rfl⟩)
              go_ret2
              exact ⟨rfl, rfl⟩
          · have hv : dayV y m d = .tuple #[.int .i64 0, .bool false] := by
              unfold dayV
              rw [if_neg (by rw [dayB_no (by omega)]; exact Bool.false_ne_true)]
            rw [hv]
            have g4 : decide (d < 1) = true := by simp; omega
            clear hv
            go_enter Tryd.func13, Tryd.ntmps13
            go_wp2_with fail
            go_ret2
            exact ⟨rfl, rfl⟩
        · have hv : dayV y m d = .tuple #[.int .i64 0, .bool false] := by
            unfold dayV
            rw [if_neg (by rw [dayB_no (by omega)]; exact Bool.false_ne_true)]
          rw [hv]
          have g3 : decide (12 < m) = true := by simp; omega
          clear hv
          go_enter Tryd.func13, Tryd.ntmps13
          go_wp2_with fail
          go_ret2
          exact ⟨rfl, rfl⟩
      · have hv : dayV y m d = .tuple #[.int .i64 0, .bool false] := by
          unfold dayV
          rw [if_neg (by rw [dayB_no (by omega)]; exact Bool.false_ne_true)]
        rw [hv]
        have g2 : decide (m < 1) = true := by simp; omega
        clear hv
        go_enter Tryd.func13, Tryd.ntmps13
        go_wp2_with fail
        go_ret2
        exact ⟨rfl, rfl⟩
    · have hv : dayV y m d = .tuple #[.int .i64 0, .bool false] := by
        unfold dayV
        rw [if_neg (by rw [dayB_no (by omega)]; exact Bool.false_ne_true)]
      rw [hv]
      have g1 : decide (9999 < y) = true := by simp; omega
      clear hv
      go_enter Tryd.func13, Tryd.ntmps13
      go_wp2_with fail
      go_ret2
      exact ⟨rfl, rfl⟩
  · have hv : dayV y m d = .tuple #[.int .i64 0, .bool false] := by
      unfold dayV
      rw [if_neg (by rw [dayB_no (by omega)]; exact Bool.false_ne_true)]
    rw [hv]
    have g0 : decide (y < 0) = true := by simp; omega
    clear hv
    go_enter Tryd.func13, Tryd.ntmps13
    go_wp2_with fail
    go_ret2
    exact ⟨rfl, rfl⟩
end Go.Proofs.YtbogjebipnmckaaDoor
