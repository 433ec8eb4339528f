/-
  Layer 8: DateSteps: the walk.
-/
import Derived.Test.YtbogjebipnmckaaDoorDh
namespace Go.Proofs.YtbogjebipnmckaaDoor
open Go.RowKit
set_option linter.unusedSimpArgs false

theorem dayV_yes {y m d : Int} {k : Nat} (hm : m = (k : Int) + 1) (hk : k < 12) (a : 0 ≤ y) (b : y ≤ 9999) (f : 1 ≤ d) (g : d ≤ moD y k) : dayV y m d = .tuple #[.int .i64 (yrs y - 719528 + d - 1 + cuM y k), .bool true] := by
  have e : (m - 1).toNat = k := by omega
  unfold dayV
  rw [if_pos (dayB_yes a b (by omega) (by omega) f (by rw [e]; exact g))]
  unfold dayN
  rw [e]
theorem dayV_no {y m d : Int} (h : ¬ (1 ≤ m ∧ m ≤ 12 ∧ 1 ≤ d ∧ d ≤ moD y (m - 1).toNat)) : dayV y m d = .tuple #[.int .i64 0, .bool false] := by
  unfold dayV
  rw [if_neg (by rw [dayB_no (fun q => h ⟨q.2.2.1, q.2.2.2.1, q.2.2.2.2.1, q.2.2.2.2.2⟩)]; exact Bool.false_ne_true)]
theorem days_is {y m d : Int} {v : Value} (h : dayV y m d = v) (w : World) : Calls Tryd.prog 12 #[.int .i64 y, .int .i64 m, .int .i64 d] w fun e w' => e = .returned v ∧ w = w' := by
  subst h
  exact days_any y m d w
set_option maxRecDepth 100000 in
set_option maxHeartbeats 800000 in
theorem dateSteps_walk (a b c : Int) (w : World) (ht : Tb w) : Calls Tryd.prog 5 #[.int .i64 a, .int .i64 b, .int .i64 c] w fun e w' => e = .returned (.bool true) ∧ Below w.heap.size w w' := by
  obtain ⟨Y, eY⟩ : ∃ Y : Nat, IntKind.u64.wrap a % 9999 = (Y : Int) := ⟨(IntKind.u64.wrap a % 9999).toNat, by omega⟩
  obtain ⟨K, eK⟩ : ∃ Y : Nat, IntKind.u64.wrap b % 12 = (Y : Int) := ⟨(IntKind.u64.wrap b % 12).toNat, by omega⟩
  obtain ⟨T, eT⟩ : ∃ Y : Nat, IntKind.u64.wrap c % 31 = (Y : Int) := ⟨(IntKind.u64.wrap c % 31).toNat, by omega⟩
  have hY : Y < 9999 := by omega
  have hK : K < 12 := by omega
  have hT : T < 31 := by omega
  have kK : (1 : Int) + (K : Int) = (K : Int) + 1 := by omega
  have kT : (1 : Int) + (T : Int) = (T : Int) + 1 := by omega
  have tY : (IntKind.u64.wrap a).tmod 9999 = (Y : Int) := by rw [Int.tmod_eq_emod_of_nonneg (by rw [IntKind.wrap_u64]; omega)]; exact eY
  have tK : (IntKind.u64.wrap b).tmod 12 = (K : Int) := by rw [Int.tmod_eq_emod_of_nonneg (by rw [IntKind.wrap_u64]; omega)]; exact eK
  have tT : (IntKind.u64.wrap c).tmod 31 = (T : Int) := by rw [Int.tmod_eq_emod_of_nonneg (by rw [IntKind.wrap_u64]; omega)]; exact eT
  clear eY eK eT
  have hmb := moD_bd (Y : Int) K hK
  have HA := hide (fun W h => awake_any W h)
  by_cases hok : (T : Int) + 1 ≤ moD (Y : Int) K
  · have HD := hide (fun W => days_is (dayV_yes (y := (Y : Int)) (m := (K : Int) + 1) (d := (T : Int) + 1) rfl hK (by omega) (by omega) (by omega) hok) W)
    have HF := hide (fun W => days_is (dayV_yes (y := (Y : Int)) (m := 1) (d := 1) (k := 0) rfl (by omega) (by omega) (by omega) (by omega) (by have := moD_bd (Y : Int) 0 (by omega); omega)) W)
    have HX := hide (fun W => days_is (dayV_yes (y := (Y : Int) + 1) (m := 1) (d := 1) (k := 0) rfl (by omega) (by omega) (by omega) (by omega) (by have := moD_bd ((Y : Int) + 1) 0 (by omega); omega)) W)
    obtain ⟨N, hN⟩ : ∃ N, N = yrs (Y : Int) - 719528 + ((T : Int) + 1) - 1 + cuM (Y : Int) K := ⟨_, rfl⟩
    rw [← hN] at HD
    have hNb : -719528 ≤ N ∧ N ≤ 3000000 := by
      have h1 := yrs_bd (Y : Int) (by omega) (by omega)
      have h2 := cuM_bd (Y : Int) K (by omega)
      omega
    obtain ⟨nb0, nb1⟩ := hNb
    by_cases h2 : (T : Int) + 1 + 1 ≤ moD (Y : Int) K
    · have h2v : dayV (Y : Int) ((K : Int) + 1) ((T : Int) + 1 + 1) = .tuple #[.int .i64 (N + 1), .bool true] := by
        rw [dayV_yes (y := (Y : Int)) (m := (K : Int) + 1) (d := (T : Int) + 1 + 1) rfl hK (by omega) (by omega) (by omega) h2, hN]
        congr 4
        omega
      have H2 := hide (fun W => days_is h2v W)
      clear h2v
      obtain ⟨F, hF⟩ : ∃ F, F = yrs (Y : Int) - 719528 + 1 - 1 + cuM (Y : Int) 0 := ⟨_, rfl⟩
      obtain ⟨X, hX⟩ : ∃ X, X = yrs ((Y : Int) + 1) - 719528 + 1 - 1 + cuM ((Y : Int) + 1) 0 := ⟨_, rfl⟩
      rw [← hF] at HF
      rw [← hX] at HX
      have hd : X - F = 365 + if lpY (Y : Int) = true then 1 else 0 := by
        rw [hX, hF, yrs_step (Y : Int) (by omega) (by omega), show cuM (Y : Int) 0 = 0 from rfl, show cuM ((Y : Int) + 1) 0 = 0 from rfl]
        omega
      have hFb : -719528 ≤ F ∧ F ≤ 3000000 := by
        have := yrs_bd (Y : Int) (by omega) (by omega)
        rw [hF, show cuM (Y : Int) 0 = 0 from rfl]
        omega
      have hXb : -719528 ≤ X ∧ X ≤ 3000000 := by
        have := yrs_bd ((Y : Int) + 1) (by omega) (by omega)
        rw [hX, show cuM ((Y : Int) + 1) 0 = 0 from rfl]
        omega
      obtain ⟨f0, f1⟩ := hFb
      obtain ⟨x0, x1⟩ := hXb
      obtain ⟨lp, hlp⟩ : ∃ b, b = lpY (Y : Int) := ⟨_, rfl⟩
      have HP := hide (fun W => leap_any (Y : Int) W)
      rw [← hlp] at HP hd
      clear hF hX hlp hN hok h2 hmb
      cases lp
      · have q1 : ((X - F : Int) == 366) = false := by simp at hd; simp; omega
        have q2 : ((X - F : Int) == 365) = true := by simp at hd; simp; omega
        clear hd
        go_enter Tryd.func5, Tryd.ntmps5
        go_wp2_with (first
          | (go_at_call 12; (with_reducible refine (HD.out _).mono ?_); rintro e w' ⟨rfl, rfl⟩)
          | (go_at_call 12; (with_reducible refine (H2.out _).mono ?_); rintro e w' ⟨rfl, rfl⟩)
          | (go_at_call 12; (with_reducible refine (HF.out _).mono ?_); rintro e w' ⟨rfl, rfl⟩)
          | (go_at_call 12; (with_reducible refine (HX.out _).mono ?_); rintro e w' ⟨rfl, rfl⟩)
          | (go_at_call 9; (with_reducible refine (HA.out _ ht).mono ?_); rintro e w' ⟨rfl, hb⟩)
          | (go_at_call 16; (with_reducible refine (HP.out _).mono ?_); rintro e w' ⟨rfl, rfl⟩))
        go_ret
        exact ⟨rfl, hb⟩
      · have q1 : ((X - F : Int) == 366) = true := by simp at hd; simp; omega
        have q2 : ((X - F : Int) == 365) = false := by simp at hd; simp; omega
        clear hd
        go_enter Tryd.func5, Tryd.ntmps5
        go_wp2_with (first
          | (go_at_call 12; (with_reducible refine (HD.out _).mono ?_); rintro e w' ⟨rfl, rfl⟩)
          | (go_at_call 12; (with_reducible refine (H2.out _).mono ?_); rintro e w' ⟨rfl, rfl⟩)
          | (go_at_call 12; (with_reducible refine (HF.out _).mono ?_); rintro e w' ⟨rfl, rfl⟩)
          | (go_at_call 12; (with_reducible refine (HX.out _).mono ?_); rintro e w' ⟨rfl, rfl⟩)
          | (go_at_call 9; (with_reducible refine (HA.out _ ht).mono ?_); rintro e w' ⟨rfl, hb⟩)
          | (go_at_call 16; (with_reducible refine (HP.out _).mono ?_); rintro e w' ⟨rfl, rfl⟩))
        go_ret
        exact ⟨rfl, hb⟩
    · have h2v : dayV (Y : Int) ((K : Int) + 1) ((T : Int) + 1 + 1) = .tuple #[.int .i64 0, .bool false] := dayV_no (fun q => h2 (by
        have := q.2.2.2
        rw [show ((K : Int) + 1 - 1).toNat = K by omega] at this
        exact this))
      have H2 := hide (fun W => days_is h2v W)
      clear h2v
      have hTm : (T : Int) + 1 = moD (Y : Int) K := by omega
      by_cases h11 : K < 11
      · have h3v : dayV (Y : Int) ((K : Int) + 1 + 1) 1 = .tuple #[.int .i64 (N + 1), .bool true] := by
          rw [dayV_yes (y := (Y : Int)) (m := (K : Int) + 1 + 1) (d := 1) (k := K + 1) (by omega) (by omega) (by omega) (by omega) (by omega) (by have := moD_bd (Y : Int) (K + 1) (by omega); omega), hN, show cuM (Y : Int) (K + 1) = cuM (Y : Int) K + moD (Y : Int) K from rfl, ← hTm]
          congr 4
          omega
        have H3 := hide (fun W => days_is h3v W)
        clear h3v
        obtain ⟨F, hF⟩ : ∃ F, F = yrs (Y : Int) - 719528 + 1 - 1 + cuM (Y : Int) 0 := ⟨_, rfl⟩
        obtain ⟨X, hX⟩ : ∃ X, X = yrs ((Y : Int) + 1) - 719528 + 1 - 1 + cuM ((Y : Int) + 1) 0 := ⟨_, rfl⟩
        rw [← hF] at HF
        rw [← hX] at HX
        have hd : X - F = 365 + if lpY (Y : Int) = true then 1 else 0 := by
          rw [hX, hF, yrs_step (Y : Int) (by omega) (by omega), show cuM (Y : Int) 0 = 0 from rfl, show cuM ((Y : Int) + 1) 0 = 0 from rfl]
          omega
        have hFb : -719528 ≤ F ∧ F ≤ 3000000 := by
          have := yrs_bd (Y : Int) (by omega) (by omega)
          rw [hF, show cuM (Y : Int) 0 = 0 from rfl]
          omega
        have hXb : -719528 ≤ X ∧ X ≤ 3000000 := by
          have := yrs_bd ((Y : Int) + 1) (by omega) (by omega)
          rw [hX, show cuM ((Y : Int) + 1) 0 = 0 from rfl]
          omega
        obtain ⟨f0, f1⟩ := hFb
        obtain ⟨x0, x1⟩ := hXb
        obtain ⟨lp, hlp⟩ : ∃ b, b = lpY (Y : Int) := ⟨_, rfl⟩
        have HP := hide (fun W => leap_any (Y : Int) W)
        rw [← hlp] at HP hd
        clear hF hX hlp hN hok h2 hmb hTm
        cases lp
        · have q1 : ((X - F : Int) == 366) = false := by simp at hd; simp; omega
          have q2 : ((X - F : Int) == 365) = true := by simp at hd; simp; omega
          clear hd
          go_enter Tryd.func5, Tryd.ntmps5
          go_wp2_with (first
            | (go_at_call 12; (with_reducible refine (HD.out _).mono ?_); rintro e w' ⟨rfl, rfl⟩)
            | (go_at_call 12; (with_reducible refine (H2.out _).mono ?_); rintro e w' ⟨rfl, rfl⟩)
            | (go_at_call 12; (with_reducible refine (H3.out _).mono ?_); rintro e w' ⟨rfl, rfl⟩)
            | (go_at_call 12; (with_reducible refine (HF.out _).mono ?_); rintro e w' ⟨rfl, rfl⟩)
            | (go_at_call 12; (with_reducible refine (HX.out _).mono ?_); rintro e w' ⟨rfl, rfl⟩)
            | (go_at_call 9; (with_reducible refine (HA.out _ ht).mono ?_); rintro e w' ⟨rfl, hb⟩)
            | (go_at_call 16; (with_reducible refine (HP.out _).mono ?_); rintro e w' ⟨rfl, rfl⟩))
          go_ret
          exact ⟨rfl, hb⟩
        · have q1 : ((X - F : Int) == 366) = true := by simp at hd; simp; omega
          have q2 : ((X - F : Int) == 365) = false := by simp at hd; simp; omega
          clear hd
          go_enter Tryd.func5, Tryd.ntmps5
          go_wp2_with (first
            | (go_at_call 12; (with_reducible refine (HD.out _).mono ?_); rintro e w' ⟨rfl, rfl⟩)
            | (go_at_call 12; (with_reducible refine (H2.out _).mono ?_); rintro e w' ⟨rfl, rfl⟩)
            | (go_at_call 12; (with_reducible refine (H3.out _).mono ?_); rintro e w' ⟨rfl, rfl⟩)
            | (go_at_call 12; (with_reducible refine (HF.out _).mono ?_); rintro e w' ⟨rfl, rfl⟩)
            | (go_at_call 12; (with_reducible refine (HX.out _).mono ?_); rintro e w' ⟨rfl, rfl⟩)
            | (go_at_call 9; (with_reducible refine (HA.out _ ht).mono ?_); rintro e w' ⟨rfl, hb⟩)
            | (go_at_call 16; (with_reducible refine (HP.out _).mono ?_); rintro e w' ⟨rfl, rfl⟩))
          go_ret
          exact ⟨rfl, hb⟩
      · obtain rfl : K = 11 := by omega
        rw [show (((11 : Nat) : Int) + 1) = 12 from rfl] at HD H2
        have h3v : dayV (Y : Int) 13 1 = .tuple #[.int .i64 0, .bool false] := dayV_no (fun q => by
          have := q.2.1
          omega)
        have h4v : dayV ((Y : Int) + 1) 1 1 = .tuple #[.int .i64 (N + 1), .bool true] := by
          have h12 : cuM (Y : Int) 12 = cuM (Y : Int) 11 + moD (Y : Int) 11 := rfl
          rw [cuM_12, ← hTm] at h12
          rw [dayV_yes (y := (Y : Int) + 1) (m := 1) (d := 1) (k := 0) rfl (by omega) (by omega) (by omega) (by omega) (by have := moD_bd ((Y : Int) + 1) 0 (by omega); omega), hN, yrs_step (Y : Int) (by omega) (by omega), show cuM ((Y : Int) + 1) 0 = 0 from rfl]
          congr 4
          omega
        have H3 := hide (fun W => days_is h3v W)
        have H4 := hide (fun W => days_is h4v W)
        clear h3v h4v
        have hXN : yrs ((Y : Int) + 1) - 719528 + 1 - 1 + cuM ((Y : Int) + 1) 0 = N + 1 := by
          have h12 : cuM (Y : Int) 12 = cuM (Y : Int) 11 + moD (Y : Int) 11 := rfl
          rw [cuM_12, ← hTm] at h12
          rw [hN, yrs_step (Y : Int) (by omega) (by omega), show cuM ((Y : Int) + 1) 0 = 0 from rfl]
          omega
        rw [hXN] at HX
        obtain ⟨F, hF⟩ : ∃ F, F = yrs (Y : Int) - 719528 + 1 - 1 + cuM (Y : Int) 0 := ⟨_, rfl⟩
        obtain ⟨X, hX⟩ : ∃ X, X = N + 1 := ⟨_, rfl⟩
        rw [← hXN] at hX
        rw [← hF] at HF
        have eX : (N + 1 : Int) = X := by rw [hX, hXN]
        rw [eX] at HX H4
        have hd : X - F = 365 + if lpY (Y : Int) = true then 1 else 0 := by
          rw [hX, hF, yrs_step (Y : Int) (by omega) (by omega), show cuM (Y : Int) 0 = 0 from rfl, show cuM ((Y : Int) + 1) 0 = 0 from rfl]
          omega
        have hFb : -719528 ≤ F ∧ F ≤ 3000000 := by
          have := yrs_bd (Y : Int) (by omega) (by omega)
          rw [hF, show cuM (Y : Int) 0 = 0 from rfl]
          omega
        have hXb : -719528 ≤ X ∧ X ≤ 3000000 := by
          have := yrs_bd ((Y : Int) + 1) (by omega) (by omega)
          rw [hX, show cuM ((Y : Int) + 1) 0 = 0 from rfl]
          omega
        obtain ⟨f0, f1⟩ := hFb
        obtain ⟨x0, x1⟩ := hXb
        obtain ⟨lp, hlp⟩ : ∃ b, b = lpY (Y : Int) := ⟨_, rfl⟩
        have HP := hide (fun W => leap_any (Y : Int) W)
        rw [← hlp] at HP hd
        obtain rfl : N = X - 1 := by omega
        have eX2 : (X - 1 : Int) + 1 = X := by omega
        clear eX
        clear hF hX hlp hN hok h2 hmb hTm hXN
        cases lp
        · have q1 : ((X - F : Int) == 366) = false := by simp at hd; simp; omega
          have q2 : ((X - F : Int) == 365) = true := by simp at hd; simp; omega
          clear hd
          go_enter Tryd.func5, Tryd.ntmps5
          go_wp2_with (first
            | (go_at_call 12; (with_reducible refine (HD.out _).mono ?_); rintro e w' ⟨rfl, rfl⟩)
            | (go_at_call 12; (with_reducible refine (H2.out _).mono ?_); rintro e w' ⟨rfl, rfl⟩)
            | (go_at_call 12; (with_reducible refine (H3.out _).mono ?_); rintro e w' ⟨rfl, rfl⟩)
            | (go_at_call 12; (with_reducible refine (H4.out _).mono ?_); rintro e w' ⟨rfl, rfl⟩)
            | (go_at_call 12; (with_reducible refine (HF.out _).mono ?_); rintro e w' ⟨rfl, rfl⟩)
            | (go_at_call 9; (with_reducible refine (HA.out _ ht).mono ?_); rintro e w' ⟨rfl, hb⟩)
            | (go_at_call 16; (with_reducible refine (HP.out _).mono ?_); rintro e w' ⟨rfl, rfl⟩))
          go_ret
          exact ⟨rfl, hb⟩
        · have q1 : ((X - F : Int) == 366) = true := by simp at hd; simp; omega
          have q2 : ((X - F : Int) == 365) = false := by simp at hd; simp; omega
          clear hd
          go_enter Tryd.func5, Tryd.ntmps5
          go_wp2_with (first
            | (go_at_call 12; (with_reducible refine (HD.out _).mono ?_); rintro e w' ⟨rfl, rfl⟩)
            | (go_at_call 12; (with_reducible refine (H2.out _).mono ?_); rintro e w' ⟨rfl, rfl⟩)
            | (go_at_call 12; (with_reducible refine (H3.out _).mono ?_); rintro e w' ⟨rfl, rfl⟩)
            | (go_at_call 12; (with_reducible refine (H4.out _).mono ?_); rintro e w' ⟨rfl, rfl⟩)
            | (go_at_call 12; (with_reducible refine (HF.out _).mono ?_); rintro e w' ⟨rfl, rfl⟩)
            | (go_at_call 9; (with_reducible refine (HA.out _ ht).mono ?_); rintro e w' ⟨rfl, hb⟩)
            | (go_at_call 16; (with_reducible refine (HP.out _).mono ?_); rintro e w' ⟨rfl, rfl⟩))
          go_ret
          exact ⟨rfl, hb⟩
  · have HD := hide (fun W => days_is (dayV_no (y := (Y : Int)) (m := (K : Int) + 1) (d := (T : Int) + 1) (fun q => hok (by
      have := q.2.2.2
      rw [show ((K : Int) + 1 - 1).toNat = K by omega] at this
      exact this))) W)
    have H28 := hide (fun W => days_is (dayV_yes (y := (Y : Int)) (m := (K : Int) + 1) (d := 28) rfl hK (by omega) (by omega) (by omega) (by omega)) W)
    have q : decide (28 < (T : Int) + 1) = true := by simp; omega
    have HP := hide (fun W => leap_any (Y : Int) W)
    clear hok hmb
    go_enter Tryd.func5, Tryd.ntmps5
    go_wp2_with (first
      | (go_at_call 12; (with_reducible refine (HD.out _).mono ?_); rintro e w' ⟨rfl, rfl⟩)
      | (go_at_call 12; (with_reducible refine (H28.out _).mono ?_); rintro e w' ⟨rfl, rfl⟩)
      | (go_at_call 9; (with_reducible refine (HA.out _ ht).mono ?_); rintro e w' ⟨rfl, hb⟩)
      | (go_at_call 16; (with_reducible refine (HP.out _).mono ?_); rintro e w' ⟨rfl, rfl⟩))
    go_ret
    exact ⟨rfl, hb⟩
end Go.Proofs.YtbogjebipnmckaaDoor
