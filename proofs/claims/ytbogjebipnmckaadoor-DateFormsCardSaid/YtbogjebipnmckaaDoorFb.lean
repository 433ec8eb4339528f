/-
  Layer 8: the page's PrintDate.
-/
import Derived.Test.YtbogjebipnmckaaDoorFa
import Derived.Test.YtbogjebipnmckaaDoorDi
namespace Go.Proofs.YtbogjebipnmckaaDoor
open Go.RowKit
set_option linter.unusedSimpArgs false
set_option linter.unusedVariables false

theorem dayR_is {y m d : Int} {v : Value} (h : dayV y m d = v) (w : World) : Calls Tryd.prog 13 #[.int .i64 y, .int .i64 m, .int .i64 d] w fun e w' => e = .returned v ∧ w = w' := by
  subst h
  exact daysR_any y m d w
theorem dayV_first {y : Nat} (h : y ≤ 9999) : dayV (y : Int) 1 1 = .tuple #[.int .i64 (yrs (y : Int) - 719528), .bool true] := by
  rw [dayV_yes (y := (y : Int)) (m := 1) (d := 1) (k := 0) rfl (by omega) (by omega) (by omega) (by omega) (by have := moD_bd (y : Int) 0 (by omega); omega), show cuM (y : Int) 0 = 0 from rfl]
  congr 4
  omega
theorem dayV_over {m d : Int} : dayV 10000 m d = .tuple #[.int .i64 0, .bool false] := by
  unfold dayV
  rw [dayB_no (by omega)]
  rfl
set_option maxRecDepth 100000 in
set_option maxHeartbeats 1600000 in
theorem printR_any (n : Int) (w : World) : Calls Tryd.prog 15 #[.int .i64 n] w fun e w' => e = .returned (.string (strOf (printT n))) ∧ Below w.heap.size w w' := by
  by_cases h0 : 0 ≤ n
  · by_cases h1 : n ≤ 253402300799
    · have hv : printT n = prt n.toNat := by unfold printT; rw [if_pos ⟨h0, h1⟩]
      obtain ⟨N, rfl⟩ : ∃ N : Nat, n = N := ⟨n.toNat, by omega⟩
      have eN : ((N : Int)).toNat = N := by omega
      rw [eN] at hv
      rw [hv]
      have hN : N ≤ 253402300799 := by omega
      have d0 : decide ((N : Int) < 0) = false := by simp
      have d1 : decide (253402300799 < (N : Int)) = false := by simp; omega
      have hD : dD N = N / 86400 + 719528 := by unfold dD; rfl
      obtain ⟨D, hDD⟩ : ∃ D, D = dD N := ⟨_, rfl⟩
      have hY : dY N = yOf (D : Int) := by unfold dY; rw [hDD]
      have hL : dL N = (D : Int) - yrs (dY N) := by unfold dL; rw [hDD]
      rw [← hDD] at hD
      have hD1 : D ≤ 3652424 := by omega
      have hD0 : 719528 ≤ D := by omega
      obtain ⟨q, hq⟩ : ∃ q : Nat, q = N / 86400 := ⟨_, rfl⟩
      have eD : (N : Int) / 86400 = (q : Int) := by omega
      have eqD : (D : Int) = (q : Int) + 719528 := by omega
      have hqb : q ≤ 2932896 := by omega
      have HY := hide hY
      have HL := hide hL
      have HN := hide hN
      have HQD := hide eqD
      have e366 : (q : Int) / 366 = ((q / 366 : Nat) : Int) := by omega
      have hfirst : 1970 + q / 366 ≤ 9999 ∧ yrs ((1970 + q / 366 : Nat) : Int) ≤ (D : Int) := by
        refine ⟨by omega, ?_⟩
        have h1 := yrs_1970
        have h2 : ∀ y : Nat, yrs ((1970 + y : Nat) : Int) ≤ 719528 + 366 * (y : Int) := fun y => by
          unfold yrs
          omega
        have := h2 (q / 366)
        omega
      have HFI := hide hfirst
      obtain ⟨y0, hy0⟩ : ∃ y0 : Nat, y0 = q / 366 := ⟨_, rfl⟩
      rw [← hy0] at e366 HFI
      have hy0b : y0 ≤ 8029 := by omega
      clear hv eN hDD hY hL hD hN h0 h1 hfirst hq eqD hy0
      have HB := hide (Below.refl w.heap.size w)
      go_enter Tryd.func15, Tryd.ntmps15
      go_wp2_with fail
      go_loopw [5] (fun v wr => ∃ y : Nat, v = .int .i64 (y : Int) ∧ y ≤ 9999 ∧ Hid (yrs (y : Int) ≤ (D : Int)) ∧ wr = w) (fun v _ => (9999 - intOf v).toNat)
      case atStart => exact ⟨1970 + y0, by go_num, HFI.out.1, hide HFI.out.2, rfl⟩
      case round =>
        obtain ⟨y, rfl, hy, HYD, rfl⟩ := hrel
        have HYC := hide (fun W => dayR_is (dayV_first hy) W)
        have hb0 := yrs_bd (y : Int) (by omega) (by omega)
        by_cases hle : y ≤ 9998 ∧ yrs ((y : Int) + 1) ≤ (D : Int)
        · obtain ⟨hy8, hle⟩ := hle
          have hc : dayV ((y : Int) + 1) 1 1 = .tuple #[.int .i64 (yrs ((y : Int) + 1) - 719528), .bool true] := dayV_first (y := y + 1) (by omega)
          have HC := hide (fun W => dayR_is hc W)
          have hzb := yrs_bd ((y : Int) + 1) (by omega) (by omega)
          have hzq : yrs ((y : Int) + 1) - 719528 ≤ (q : Int) := by have := HQD.out; omega
          have HLE := hide hle
          clear hc hle hb0
          obtain ⟨z, hz⟩ : ∃ z, z = yrs ((y : Int) + 1) - 719528 := ⟨_, rfl⟩
          rw [← hz] at HC hzq
          have dz : decide ((q : Int) < z) = false := by simp; omega
          have HY8 := hide hy8
          clear hz hzb hzq HYC
          go_wp2_with (go_at_call 13; (with_reducible refine (HC.out _).mono ?_); rintro e w' ⟨rfl, rfl⟩)
          go_round
          case rel => exact ⟨y + 1, by go_num, by omega, hide (by rw [show ((y + 1 : Nat) : Int) = (y : Int) + 1 by omega]; exact HLE.out), by first | rfl | trivial⟩
          case measure => (have := HY8.out); (simp [intOf]) <;> omega
        · have hyx : (D : Int) < yrs ((y : Int) + 1) := by
            by_cases h : y = 9999
            · subst h
              have h3 : yrs ((9999 : Nat) + 1 : Int) = 3652425 := yrs_10000
              rw [h3]
              omega
            · omega
          obtain ⟨z, ok, hc, hd⟩ : ∃ (z : Int) (ok : Bool), dayV ((y : Int) + 1) 1 1 = .tuple #[.int .i64 z, .bool ok] ∧ (ok = false ∨ (q : Int) < z) := by
            by_cases h : y = 9999
            · subst h
              exact ⟨0, false, dayV_over, .inl rfl⟩
            · exact ⟨_, true, dayV_first (y := y + 1) (by omega), .inr (by have := HQD.out; rw [show ((y + 1 : Nat) : Int) = (y : Int) + 1 by omega]; omega)⟩
          have HC := hide (fun W => dayR_is hc W)
          have hyv : y = dY N := by
            rw [HY.out]
            exact yOf_eq hy HYD.out hyx
          have hL : (D : Int) - yrs (y : Int) = dL N := by rw [HL.out, hyv]
          have hst := yrs_step (y : Int) (by omega) (by omega)
          have h12 := cuM_12 (y : Int)
          have hLb : 0 ≤ dL N ∧ dL N < cuM (y : Int) 12 := by
            have := HYD.out
            rw [← hL, h12]
            omega
          have hqL : (q : Int) - (yrs (y : Int) - 719528) = dL N := by have := HQD.out; omega
          obtain ⟨u, hu⟩ : ∃ u, u = yrs (y : Int) - 719528 := ⟨_, rfl⟩
          rw [← hu] at HYC hqL
          have ub0 : -719528 ≤ u := by omega
          have ub1 : u ≤ 3652425 := by omega
          obtain ⟨L, hLL⟩ : ∃ L, L = dL N := ⟨_, rfl⟩
          rw [← hLL] at hqL hLb
          have hM : ∀ k : Nat, k ≤ 11 → cuM (y : Int) k ≤ L → L < cuM (y : Int) (k + 1) → k = dM N ∧ (L - cuM (y : Int) k).toNat + 1 = dT N := fun k hk a b => by
            have e1 : k = dM N := by
              unfold dM
              rw [← hyv, ← hLL]
              exact mOf_eq hk a b
            refine ⟨e1, ?_⟩
            unfold dT
            rw [← hyv, ← hLL, ← e1]
          have HM := hide hM
          have HLB := hide hLb
          have HYV := hide hyv
          have hLb3 : L < 366 := by
            have := HLB.out.2
            rw [h12] at this
            split at this <;> omega
          have hL0 := hLb.1
          have HLE := hide hqL
          clear hle hst h12 hM hLb hyv hL hLL hu hyx hc hb0 hqL
          have key : ∀ b1 b2 : Bool, ok = b1 → decide ((q : Int) < z) = b2 → (b1 = false ∨ b2 = true) → True := fun _ _ _ _ _ => trivial
          clear key
          obtain ⟨b2, e2⟩ : ∃ b, decide ((q : Int) < z) = b := ⟨_, rfl⟩
          have hd2 : ok = false ∨ b2 = true := by
            rcases hd with h | h
            · exact .inl h
            · exact .inr (by rw [← e2]; exact decide_eq_true h)
          clear hd
          have dead : ok = true → b2 = false → False := fun h h' => by
            rcases hd2 with h2 | h2
            · rw [h] at h2; cases h2
            · rw [h'] at h2; cases h2
          have HDE := hide dead
          clear dead hd2
          cases ok <;> cases b2
          case true.false => exact absurd (HDE.out rfl rfl) (fun h => h)
          all_goals
            clear HDE
            go_wp2_with (first
              | (go_at_call 13; (with_reducible refine (HC.out _).mono ?_); rintro e w' ⟨rfl, rfl⟩)
              | (go_at_call 13; (with_reducible refine (HYC.out _).mono ?_); rintro e w' ⟨rfl, rfl⟩))
            go_loopw [10, 11] (fun v i w2 => ∃ k : Nat, i = .int .i64 ((k : Int) + 1) ∧ v = .int .i64 (L - cuM (y : Int) k) ∧ k ≤ 11 ∧ cuM (y : Int) k ≤ L ∧ w2 = wr) (fun _ i _ => (12 - intOf i).toNat)
            case atStart => exact ⟨0, rfl, by rw [show cuM (y : Int) 0 = 0 from rfl, Int.sub_zero, ← HLE.out], by omega, by rw [show cuM (y : Int) 0 = 0 from rfl]; exact HLB.out.1, rfl⟩
            case round =>
              obtain ⟨k, rfl, rfl, hk, hcl, rfl⟩ := hrel
              have HMC := hide (fun W => monthR_any (y : Int) k W (by omega))
              have hmb := moD_bd (y : Int) k (by omega)
              have hcs : cuM (y : Int) (k + 1) = cuM (y : Int) k + moD (y : Int) k := rfl
              have hcb := cuM_bd (y : Int) k (by omega)
              have HM1 := hide (HM.out k hk)
              obtain ⟨q, hq⟩ : ∃ q, q = moD (y : Int) k := ⟨_, rfl⟩
              rw [← hq] at HMC hmb hcs
              obtain ⟨c, hc⟩ : ∃ c, c = cuM (y : Int) k := ⟨_, rfl⟩
              rw [← hc] at hcs hcb hcl HM1
              simp only [← hc]
              have HCS := hide hcs
              have HCC := hide hc
              have HCL := hide hcl
              obtain ⟨mb0, mb1⟩ := hmb
              obtain ⟨cb0, cb1⟩ := hcb
              have cb2 : c ≤ 341 := by omega
              clear hcs hc hq cb1
              by_cases hge : q ≤ L - c
              · have dq : decide (q ≤ L - c) = true := by simp; omega
                have hk10 : k ≤ 10 := by
                  by_cases h : k = 11
                  · subst h
                    have h1 := HLB.out.2
                    have h2 := HCS.out
                    rw [show (11 + 1 : Nat) = 12 from rfl] at h2
                    omega
                  · omega
                have HGE := hide hge
                have HK := hide hk10
                have hkI : (k : Int) ≤ 10 := by omega
                clear hge hk hk10 hcl
                go_wp2_with (go_at_call 26; (with_reducible refine (HMC.out _).mono ?_); rintro e w' ⟨rfl, rfl⟩)
                go_round
                case rel => exact ⟨k + 1, by go_num, by rw [HCS.out]; go_num, by have := HK.out; omega, by rw [HCS.out]; have := HGE.out; omega, by first | rfl | trivial⟩
                case measure => (have := HK.out); (simp [intOf]) <;> omega
              · have dq : decide (q ≤ L - c) = false := by simp; omega
                obtain ⟨e1, e2⟩ := HM1.out hcl (by rw [HCS.out]; omega)
                have HE1 := hide e1
                have HE2 := hide e2
                have hdt : (L - c).toNat + 1 ≤ 31 := by omega
                have hdi : L - c + 1 = (((L - c).toNat + 1 : Nat) : Int) := by omega
                have hN := HN.out
                have H1 := hide (fun W => padR_c 4 y (.inr ⟨rfl, by omega⟩) W 4 (y : Int) rfl rfl)
                have H2 := hide (fun W => padR_c 2 (k + 1) (.inl ⟨rfl, by omega⟩) W 2 ((k : Int) + 1) rfl (by omega))
                have H3 := hide (fun W => padR_c 2 ((L - c).toNat + 1) (.inl ⟨rfl, by omega⟩) W 2 (L - c + 1) rfl hdi)
                have H4 := hide (fun W => padR_c 2 (N % 86400 / 3600) (.inl ⟨rfl, by omega⟩) W 2 ((N : Int) % 86400 / 3600) rfl (by omega))
                have H5 := hide (fun W => padR_c 2 (N % 3600 / 60) (.inl ⟨rfl, by omega⟩) W 2 ((N : Int) % 86400 / 60 % 60) rfl (by omega))
                have H6 := hide (fun W => padR_c 2 (N % 60) (.inl ⟨rfl, by omega⟩) W 2 ((N : Int) % 60) rfl (by omega))
                have l1 := padT_short 4 y (by omega) (by omega)
                have l2 := padT_short 2 (k + 1) (by omega) (by omega)
                have l3 := padT_short 2 ((L - c).toNat + 1) (by omega) (by omega)
                have l4 := padT_short 2 (N % 86400 / 3600) (by omega) (by omega)
                have l5 := padT_short 2 (N % 3600 / 60) (by omega) (by omega)
                have l6 := padT_short 2 (N % 60) (by omega) (by omega)
                have HP := hide (show prt N = prtT y (k + 1) ((L - c).toNat + 1) (N % 86400 / 3600) (N % 3600 / 60) (N % 60) by unfold prt; rw [← HYV.out, ← HE1.out, ← HE2.out])
                unfold prtT at HP
                obtain ⟨t1, ht1⟩ : ∃ t, t = padT 4 y := ⟨_, rfl⟩
                rw [← ht1] at H1 l1 HP
                clear ht1
                obtain ⟨t2, ht2⟩ : ∃ t, t = padT 2 (k + 1) := ⟨_, rfl⟩
                rw [← ht2] at H2 l2 HP
                clear ht2
                obtain ⟨t3, ht3⟩ : ∃ t, t = padT 2 ((L - c).toNat + 1) := ⟨_, rfl⟩
                rw [← ht3] at H3 l3 HP
                clear ht3
                obtain ⟨t4, ht4⟩ : ∃ t, t = padT 2 (N % 86400 / 3600) := ⟨_, rfl⟩
                rw [← ht4] at H4 l4 HP
                clear ht4
                obtain ⟨t5, ht5⟩ : ∃ t, t = padT 2 (N % 3600 / 60) := ⟨_, rfl⟩
                rw [← ht5] at H5 l5 HP
                clear ht5
                obtain ⟨t6, ht6⟩ : ∃ t, t = padT 2 (N % 60) := ⟨_, rfl⟩
                rw [← ht6] at H6 l6 HP
                clear ht6
                clear e1 e2 hdi hN hge hcl
                have la1 : t1.length ≤ 4 := l1
                obtain ⟨a2, ea2⟩ : ∃ a, a = t1 ++ [45] := ⟨_, rfl⟩
                have la2 : a2.length ≤ 5 := by rw [ea2, List.length_append]; (try simp only [List.length_cons, List.length_nil]); omega
                have hx2 : ∀ W, (Op.stringOp .add (strOf t1) ⟨#[45]⟩).run Tryd.prog W = .ok (.string (strOf a2)) W := fun W => by
                  have h := run_cat (P := Tryd.prog) t1 [45] (by (try simp only [List.length_cons, List.length_nil]); omega) W
                  rw [← ea2] at h
                  rw [strOf_eq [45]] at h; exact h
                have Ea2 := hide ea2
                clear ea2
                obtain ⟨a3, ea3⟩ : ∃ a, a = a2 ++ t2 := ⟨_, rfl⟩
                have la3 : a3.length ≤ 9 := by rw [ea3, List.length_append]; (try simp only [List.length_cons, List.length_nil]); omega
                have hx3 : ∀ W, (Op.stringOp .add (strOf a2) (strOf t2)).run Tryd.prog W = .ok (.string (strOf a3)) W := fun W => by
                  have h := run_cat (P := Tryd.prog) a2 t2 (by (try simp only [List.length_cons, List.length_nil]); omega) W
                  rw [← ea3] at h
                  exact h
                have Ea3 := hide ea3
                clear ea3
                obtain ⟨a4, ea4⟩ : ∃ a, a = a3 ++ [45] := ⟨_, rfl⟩
                have la4 : a4.length ≤ 10 := by rw [ea4, List.length_append]; (try simp only [List.length_cons, List.length_nil]); omega
                have hx4 : ∀ W, (Op.stringOp .add (strOf a3) ⟨#[45]⟩).run Tryd.prog W = .ok (.string (strOf a4)) W := fun W => by
                  have h := run_cat (P := Tryd.prog) a3 [45] (by (try simp only [List.length_cons, List.length_nil]); omega) W
                  rw [← ea4] at h
                  rw [strOf_eq [45]] at h; exact h
                have Ea4 := hide ea4
                clear ea4
                obtain ⟨a5, ea5⟩ : ∃ a, a = a4 ++ t3 := ⟨_, rfl⟩
                have la5 : a5.length ≤ 14 := by rw [ea5, List.length_append]; (try simp only [List.length_cons, List.length_nil]); omega
                have hx5 : ∀ W, (Op.stringOp .add (strOf a4) (strOf t3)).run Tryd.prog W = .ok (.string (strOf a5)) W := fun W => by
                  have h := run_cat (P := Tryd.prog) a4 t3 (by (try simp only [List.length_cons, List.length_nil]); omega) W
                  rw [← ea5] at h
                  exact h
                have Ea5 := hide ea5
                clear ea5
                obtain ⟨a6, ea6⟩ : ∃ a, a = a5 ++ [84] := ⟨_, rfl⟩
                have la6 : a6.length ≤ 15 := by rw [ea6, List.length_append]; (try simp only [List.length_cons, List.length_nil]); omega
                have hx6 : ∀ W, (Op.stringOp .add (strOf a5) ⟨#[84]⟩).run Tryd.prog W = .ok (.string (strOf a6)) W := fun W => by
                  have h := run_cat (P := Tryd.prog) a5 [84] (by (try simp only [List.length_cons, List.length_nil]); omega) W
                  rw [← ea6] at h
                  rw [strOf_eq [84]] at h; exact h
                have Ea6 := hide ea6
                clear ea6
                obtain ⟨a7, ea7⟩ : ∃ a, a = a6 ++ t4 := ⟨_, rfl⟩
                have la7 : a7.length ≤ 19 := by rw [ea7, List.length_append]; (try simp only [List.length_cons, List.length_nil]); omega
                have hx7 : ∀ W, (Op.stringOp .add (strOf a6) (strOf t4)).run Tryd.prog W = .ok (.string (strOf a7)) W := fun W => by
                  have h := run_cat (P := Tryd.prog) a6 t4 (by (try simp only [List.length_cons, List.length_nil]); omega) W
                  rw [← ea7] at h
                  exact h
                have Ea7 := hide ea7
                clear ea7
                obtain ⟨a8, ea8⟩ : ∃ a, a = a7 ++ [58] := ⟨_, rfl⟩
                have la8 : a8.length ≤ 20 := by rw [ea8, List.length_append]; (try simp only [List.length_cons, List.length_nil]); omega
                have hx8 : ∀ W, (Op.stringOp .add (strOf a7) ⟨#[58]⟩).run Tryd.prog W = .ok (.string (strOf a8)) W := fun W => by
                  have h := run_cat (P := Tryd.prog) a7 [58] (by (try simp only [List.length_cons, List.length_nil]); omega) W
                  rw [← ea8] at h
                  rw [strOf_eq [58]] at h; exact h
                have Ea8 := hide ea8
                clear ea8
                obtain ⟨a9, ea9⟩ : ∃ a, a = a8 ++ t5 := ⟨_, rfl⟩
                have la9 : a9.length ≤ 24 := by rw [ea9, List.length_append]; (try simp only [List.length_cons, List.length_nil]); omega
                have hx9 : ∀ W, (Op.stringOp .add (strOf a8) (strOf t5)).run Tryd.prog W = .ok (.string (strOf a9)) W := fun W => by
                  have h := run_cat (P := Tryd.prog) a8 t5 (by (try simp only [List.length_cons, List.length_nil]); omega) W
                  rw [← ea9] at h
                  exact h
                have Ea9 := hide ea9
                clear ea9
                obtain ⟨a10, ea10⟩ : ∃ a, a = a9 ++ [58] := ⟨_, rfl⟩
                have la10 : a10.length ≤ 25 := by rw [ea10, List.length_append]; (try simp only [List.length_cons, List.length_nil]); omega
                have hx10 : ∀ W, (Op.stringOp .add (strOf a9) ⟨#[58]⟩).run Tryd.prog W = .ok (.string (strOf a10)) W := fun W => by
                  have h := run_cat (P := Tryd.prog) a9 [58] (by (try simp only [List.length_cons, List.length_nil]); omega) W
                  rw [← ea10] at h
                  rw [strOf_eq [58]] at h; exact h
                have Ea10 := hide ea10
                clear ea10
                obtain ⟨a11, ea11⟩ : ∃ a, a = a10 ++ t6 := ⟨_, rfl⟩
                have la11 : a11.length ≤ 29 := by rw [ea11, List.length_append]; (try simp only [List.length_cons, List.length_nil]); omega
                have hx11 : ∀ W, (Op.stringOp .add (strOf a10) (strOf t6)).run Tryd.prog W = .ok (.string (strOf a11)) W := fun W => by
                  have h := run_cat (P := Tryd.prog) a10 t6 (by (try simp only [List.length_cons, List.length_nil]); omega) W
                  rw [← ea11] at h
                  exact h
                have Ea11 := hide ea11
                clear ea11
                obtain ⟨a12, ea12⟩ : ∃ a, a = a11 ++ [90] := ⟨_, rfl⟩
                have la12 : a12.length ≤ 30 := by rw [ea12, List.length_append]; (try simp only [List.length_cons, List.length_nil]); omega
                have hx12 : ∀ W, (Op.stringOp .add (strOf a11) ⟨#[90]⟩).run Tryd.prog W = .ok (.string (strOf a12)) W := fun W => by
                  have h := run_cat (P := Tryd.prog) a11 [90] (by (try simp only [List.length_cons, List.length_nil]); omega) W
                  rw [← ea12] at h
                  rw [strOf_eq [90]] at h; exact h
                have Ea12 := hide ea12
                clear ea12
                have HPA := hide (show prt N = a12 by rw [HP.out, Ea12.out, Ea11.out, Ea10.out, Ea9.out, Ea8.out, Ea7.out, Ea6.out, Ea5.out, Ea4.out, Ea3.out, Ea2.out])
                clear la1 l1 la2 l2 la3 l3 la4 l4 la5 l5 la6 l6 la7 la8 la9 la10 la11 la12
                go_wp2_with (first
                  | (go_at_call 26; (with_reducible refine (HMC.out _).mono ?_); rintro e w' ⟨rfl, rfl⟩)
                  | (go_at_call 29; (with_reducible refine (H1.out _).mono ?_); rintro e w' ⟨rfl, hb⟩; have HB := hide (HB.out.trans (hb.mono HB.out.size)); clear hb)
                  | (go_at_call 29; (with_reducible refine (H2.out _).mono ?_); rintro e w' ⟨rfl, hb⟩; have HB := hide (HB.out.trans (hb.mono HB.out.size)); clear hb)
                  | (go_at_call 29; (with_reducible refine (H3.out _).mono ?_); rintro e w' ⟨rfl, hb⟩; have HB := hide (HB.out.trans (hb.mono HB.out.size)); clear hb)
                  | (go_at_call 29; (with_reducible refine (H4.out _).mono ?_); rintro e w' ⟨rfl, hb⟩; have HB := hide (HB.out.trans (hb.mono HB.out.size)); clear hb)
                  | (go_at_call 29; (with_reducible refine (H5.out _).mono ?_); rintro e w' ⟨rfl, hb⟩; have HB := hide (HB.out.trans (hb.mono HB.out.size)); clear hb)
                  | (go_at_call 29; (with_reducible refine (H6.out _).mono ?_); rintro e w' ⟨rfl, hb⟩; have HB := hide (HB.out.trans (hb.mono HB.out.size)); clear hb))
                go_ret
                rw [HPA.out]
                exact ⟨rfl, HB.out⟩

    · have hv : printT n = [] := by unfold printT; rw [if_neg (fun h => h1 h.2)]
      rw [hv, strOf_eq]
      have d0 : decide (n < 0) = false := by simp; omega
      have d1 : decide (253402300799 < n) = true := by simp; omega
      clear hv
      go_enter Tryd.func15, Tryd.ntmps15
      go_wp2_with fail
      go_ret
      exact ⟨rfl, Below.refl _ _⟩
  · have hv : printT n = [] := by unfold printT; rw [if_neg (fun h => h0 h.1)]
    rw [hv, strOf_eq]
    have d0 : decide (n < 0) = true := by simp; omega
    clear hv
    go_enter Tryd.func15, Tryd.ntmps15
    go_wp2_with fail
    go_ret
    exact ⟨rfl, Below.refl _ _⟩
end Go.Proofs.YtbogjebipnmckaaDoor
