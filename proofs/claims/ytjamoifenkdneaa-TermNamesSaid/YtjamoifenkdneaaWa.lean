/-
  Layer 7: the walk of TermNames.
-/
import Derived.Test.YtjamoifenkdneaaTv
namespace Go.Proofs.Ytjamoifenkdneaa
open Go.RowKit
set_option linter.unusedSimpArgs false

theorem nameT_eq (s : List UInt8) : nameT s = (scanN 0 s && (decide (1 ≤ s.length) && (decide (s.length ≤ 32) && !preH s))) := by unfold nameT; rfl
theorem preH_eq (s : List UInt8) : preH s = (decide (4 ≤ s.length) && (s.take 4 == hexL)) := by unfold preH; rfl
theorem scan_snoc : ∀ (s : List UInt8) (k : Nat) (c : UInt8), letB (c.toNat : Int) = true → scanN k (s ++ [c]) = scanN k s
  | [], k, c, h => by
    rw [List.nil_append]
    show ((letB (c.toNat : Int) || (decide (k ≠ 0) && innB (c.toNat : Int))) && true) = true
    rw [h]
    rfl
  | a :: s, k, c, h => by
    rw [List.cons_append, scanN, scanN, scan_snoc s (k + 1) c h]
theorem scan_bad : ∀ (s t : List UInt8) (k : Nat) (c : UInt8), letB (c.toNat : Int) = false → innB (c.toNat : Int) = false → scanN k (s ++ (c :: t)) = false
  | [], t, k, c, h, h' => by
    rw [List.nil_append, scanN, h, h']
    simp
  | a :: s, t, k, c, h, h' => by
    rw [List.cons_append, scanN, scan_bad s t (k + 1) c h h']
    simp
theorem let_x : letB ((120 : UInt8).toNat : Int) = true := by unfold letB; decide
theorem let_1 : letB ((49 : UInt8).toNat : Int) = false := by unfold letB; decide
theorem let_sp : letB ((32 : UInt8).toNat : Int) = false := by unfold letB; decide
theorem inn_sp : innB ((32 : UInt8).toNat : Int) = false := by unfold innB; rw [let_sp]; decide
theorem name_x {s : List UInt8} (h : nameT s = true) : nameT (s ++ [120]) = decide (s.length < 32) ∧ 1 ≤ s.length ∧ s.length ≤ 32 ∧ (s == hexL) = false ∧ (4 ≤ s.length → (s.take 4 == hexL) = false) := by
  rw [nameT_eq] at h
  simp only [Bool.and_eq_true, decide_eq_true_eq, Bool.not_eq_true'] at h
  obtain ⟨h1, h2, h3, h4⟩ := h
  rw [preH_eq] at h4
  have h5 : 4 ≤ s.length → (s.take 4 == hexL) = false := fun h => by
    rw [decide_eq_true h, Bool.true_and] at h4
    exact h4
  have h6 : (s == hexL) = false := by
    cases hs : s == hexL
    · rfl
    · have e : s = hexL := by simpa using hs
      have := h5 (by rw [e]; decide)
      rw [e] at this
      exact absurd this (by decide)
  refine ⟨?_, h2, h3, h6, h5⟩
  have hp : preH (s ++ [120]) = false := by
    rw [preH_eq]
    by_cases h8 : 4 ≤ s.length
    · have e : (s ++ [120]).take 4 = s.take 4 := by rw [List.take_append_of_le_length h8]
      rw [e, h5 h8]
      simp
    · by_cases h9 : s.length = 3
      · match s, h9 with
        | [a, b, c], _ =>
          show (_ && ([a, b, c, 120] == hexL)) = false
          simp [hexL]
      · rw [decide_eq_false (by rw [List.length_append]; simp; omega)]
        rfl
  rw [nameT_eq, scan_snoc s 0 120 let_x, h1, hp, List.length_append]
  simp
  omega
theorem name_1 (s : List UInt8) : nameT (49 :: s) = false := by
  rw [nameT_eq, scanN, let_1]
  rfl
theorem name_sp (s t : List UInt8) : nameT (s ++ (32 :: t)) = false := by
  rw [nameT_eq, scan_bad s t 0 32 let_sp inn_sp]
  rfl
theorem name_nil : nameT [] = false := by rw [nameT_eq]; rfl
theorem name_is {s : List UInt8} {b : Bool} (h : nameT s = b) (hl : s.length ≤ 1000) (w : World) : Calls Try.prog 13 #[.string (strOf s)] w fun e w' => e = .returned (.bool b) ∧ w = w' := by
  subst h
  exact name_any s (by omega) w
set_option maxRecDepth 100000 in
set_option maxHeartbeats 1600000 in
theorem termNames_walk (s : List UInt8) (turn : Int) (hl : s.length ≤ 9223372036854775807) (w : World) : Calls Try.prog 4 #[.string (strOf s), .int .i64 turn] w fun e w' => e = .returned (.bool true) ∧ Below w.heap.size w w' := by
  have hL := fun W => run_lenS (P := Try.prog) (t := 9) (ty := 3) (by kernel_rfl) s W
  have HAW := hide (fun W => awake7_any W)
  by_cases h100 : 100 < s.length
  · have d : decide (100 < (s.length : Int)) = true := by simp; omega
    have d' : decide (100 < s.length) = true := by simp; omega
    go_enter Try.func4, Try.ntmps4
    go_wp2_with (go_at_call 10; (with_reducible refine (HAW.out _).mono ?_); rintro e w' ⟨rfl, hb⟩; have HB := hide hb)
    go_ret
    exact ⟨rfl, HB.out⟩
  have d : decide (100 < (s.length : Int)) = false := by simp; omega
  have d' : decide (100 < s.length) = false := by simp; omega
  obtain ⟨n, hn⟩ : ∃ n, n = s.length := ⟨_, rfl⟩
  rw [← hn] at hL h100 d d' hl
  have hnb : n ≤ 100 := by omega
  obtain ⟨K, eK⟩ : ∃ Y : Nat, IntKind.u64.wrap turn % ((n : Int) + 1) = (Y : Int) := ⟨(IntKind.u64.wrap turn % ((n : Int) + 1)).toNat, by
    have := Int.emod_nonneg (IntKind.u64.wrap turn) (show (n : Int) + 1 ≠ 0 by omega)
    omega⟩
  have hK : K ≤ n := by
    have := Int.emod_lt_of_pos (IntKind.u64.wrap turn) (show (0 : Int) < (n : Int) + 1 by omega)
    omega
  have tK : (IntKind.u64.wrap turn).tmod ((n : Int) + 1) = (K : Int) := by rw [Int.tmod_eq_emod_of_nonneg (by rw [IntKind.wrap_u64]; omega)]; exact eK
  have q1 := fun W => run_cutTo (P := Try.prog) (t := 9) (by kernel_rfl) s K (by omega) W
  have q2 := fun W => run_cutFrom (P := Try.prog) (t := 9) (by kernel_rfl) s K (K : Int) rfl (by omega) W
  have c1 := fun W => run_cat (P := Try.prog) s [120] (by simp; omega) W
  have c2 := fun W => run_cat (P := Try.prog) [49] s (by simp; omega) W
  have c3 := fun W => run_cat (P := Try.prog) (s.take K) [32] (by rw [List.length_take]; simp; omega) W
  have c4 := fun W => run_cat (P := Try.prog) (s.take K ++ [32]) (s.drop K) (by rw [List.length_append, List.length_take, List.length_drop]; simp <;> omega) W
  have N1 := hide (fun W => name_is (name_1 s) (by rw [List.length_cons]; omega) W)
  have N2 := hide (fun W => name_is (s := s.take K ++ [32] ++ s.drop K) (b := false) (by rw [List.append_assoc]; exact name_sp _ _) (by rw [List.length_append, List.length_append, List.length_take, List.length_drop]; simp; omega) W)
  have N3 := hide (fun W => name_is name_nil (by decide) W)
  rw [show [49] ++ s = 49 :: s from rfl] at c2
  rw [strOf_eq [120]] at c1
  rw [strOf_eq [49]] at c2
  rw [strOf_eq [32]] at c3
  rw [strOf_eq []] at N3
  generalize 49 :: s = s49 at c2 N1
  generalize s.take K ++ [32] ++ s.drop K = s32 at c4 N2
  generalize s.take K ++ [32] = s31 at c3 c4
  generalize s.take K = sa at q1 c3
  generalize s.drop K = sb at q2 c4
  clear eK h100
  cases hok : nameT s
  · have N0 := hide (fun W => name_is hok (by omega) W)
    generalize s ++ [120] = sx at c1
    clear hn hok
    go_enter Try.func4, Try.ntmps4
    go_wp2_with (first
      | (go_at_call 13; (with_reducible refine (N0.out _).mono ?_); rintro e w' ⟨rfl, rfl⟩))
    refine wp_region_T [(0, 1), (1, 1), (2, 1), (3, 1), (4, 1), (5, 1), (6, 1), (7, 1), (8, 2), (9, 1), (10, 1), (11, 2), (12, 1), (13, 1), (14, 1), (15, 2), (16, 1), (17, 1)] (by kernel_rfl) (by kernel_rfl) (fun _ _ _ _ h => h) ?_
    go_wp2_with (first
      | (refine wpT_nil ?_)   | ((with_reducible refine fromT_refl ?_); (try simp only [Act.put, List.setIfInBounds_toArray, List.set_cons_zero, List.set_cons_succ, List.getElem_toArray, List.getElem_cons_succ, List.getElem_cons_zero]))   | ((with_reducible refine fromT_mk (by assumption) ?_); (try simp only [Act.put, List.setIfInBounds_toArray, List.set_cons_zero, List.set_cons_succ, List.getElem_toArray, List.getElem_cons_succ, List.getElem_cons_zero]))   | (refine wpT_pure (v := ?_) rfl rfl ?_ ?_; rotate_left; (intro wx; go_simp; try go_bits) <;> (with_reducible rfl); (try simp only [Act.put, List.setIfInBounds_toArray, List.set_cons_zero, List.set_cons_succ, List.getElem_toArray, List.getElem_cons_succ, List.getElem_cons_zero]))   | (refine wpT_load (v := ?_) rfl rfl rfl ?_ ?_; rotate_left; (go_simp; try go_bits) <;> (with_reducible rfl); (try simp only [Act.put, List.setIfInBounds_toArray, List.set_cons_zero, List.set_cons_succ, List.getElem_toArray, List.getElem_cons_succ, List.getElem_cons_zero]))   | (refine wpT_read (v := ?_) rfl rfl ?_ ?_; rotate_left; (intro wx hx; go_simp; try go_bits) <;> (with_reducible rfl); (try simp only [Act.put, List.setIfInBounds_toArray, List.set_cons_zero, List.set_cons_succ, List.getElem_toArray, List.getElem_cons_succ, List.getElem_cons_zero]))   | (refine wpT_call rfl rfl ?_; intro K hK)   | (refine wpT_late rfl rfl ?_; intro K hK)   | (refine wpT_any rfl rfl ?_; intro K hK)   | (refine wpT_skip rfl rfl ?_; (try simp only [Act.put, List.setIfInBounds_toArray, List.set_cons_zero, List.set_cons_succ, List.getElem_toArray, List.getElem_cons_succ, List.getElem_cons_zero]))
      | (go_at_call 13; (with_reducible refine (N2.out _).mono ?_); rintro e w' ⟨rfl, rfl⟩)
      | (go_at_call 13; (with_reducible refine (N3.out _).mono ?_); rintro e w' ⟨rfl, rfl⟩)
      | (go_at_call 10; (with_reducible refine (HAW.out _).mono ?_); rintro e w' ⟨rfl, hb⟩; have HB := hide ((Below.refl w.heap.size w).drew.trans (hb.mono (Below.refl w.heap.size w).drew.size))))
    go_ret
    exact ⟨rfl, HB.out⟩
  · have N0 := hide (fun W => name_is hok (by omega) W)
    obtain ⟨x1, x2, x3, x4, x5⟩ := name_x hok
    have NX := hide (fun W => name_is x1 (by rw [List.length_append]; simp; omega) W)
    rw [← hn] at x2 x3 x5 NX
    unfold hexL at x4 x5
    have l1 : decide ((n : Int) < 1) = false := by simp; omega
    have l1' : decide (n < 1) = false := by simp; omega
    have l2 : decide (32 < (n : Int)) = false := by simp; omega
    have l2' : decide (32 < n) = false := by simp; omega
    generalize s ++ [120] = sx at c1 NX
    obtain ⟨b, hb32⟩ : ∃ b, decide (n < 32) = b := ⟨_, rfl⟩
    rw [hb32] at NX
    have l3 : decide ((n : Int) < 32) = b := by rw [← hb32]; exact decide_eq_decide.2 (by omega)
    have c5 : 4 ≤ n → ∀ W, (Instr.sliceAt 9 (.string (strOf s)) none (some (.int .i64 4)) none).run Try.prog W = .ok (.string (strOf (s.take 4))) W := fun h W => run_cutTo (P := Try.prog) (t := 9) (by kernel_rfl) s 4 (by omega) W
    clear hok hn x1 x2
    by_cases h4 : 4 ≤ n
    · have l4 : decide ((4 : Int) ≤ (n : Int)) = true := by simp; omega
      have l4' : decide (4 ≤ n) = true := by simp; omega
      have c6 := c5 h4
      have x6 := x5 h4
      generalize s.take 4 = s4 at c6 x6
      clear c5 x5
      cases b
      all_goals
        go_enter Try.func4, Try.ntmps4
        go_wp2_with (first
          | (go_at_call 13; (with_reducible refine (N0.out _).mono ?_); rintro e w' ⟨rfl, rfl⟩)
          | (go_at_call 13; (with_reducible refine (NX.out _).mono ?_); rintro e w' ⟨rfl, rfl⟩)
          | (go_at_call 13; (with_reducible refine (N1.out _).mono ?_); rintro e w' ⟨rfl, rfl⟩))
        refine wp_region_T [(0, 1), (1, 1), (2, 1), (3, 1), (4, 1), (5, 1), (6, 1), (7, 1), (8, 2), (9, 1), (10, 1), (11, 2), (12, 1), (13, 1), (14, 1), (15, 2), (16, 1), (17, 1)] (by kernel_rfl) (by kernel_rfl) (fun _ _ _ _ h => h) ?_
        go_wp2_with (first
          | (refine wpT_nil ?_)   | ((with_reducible refine fromT_refl ?_); (try simp only [Act.put, List.setIfInBounds_toArray, List.set_cons_zero, List.set_cons_succ, List.getElem_toArray, List.getElem_cons_succ, List.getElem_cons_zero]))   | ((with_reducible refine fromT_mk (by assumption) ?_); (try simp only [Act.put, List.setIfInBounds_toArray, List.set_cons_zero, List.set_cons_succ, List.getElem_toArray, List.getElem_cons_succ, List.getElem_cons_zero]))   | (refine wpT_pure (v := ?_) rfl rfl ?_ ?_; rotate_left; (intro wx; go_simp; try go_bits) <;> (with_reducible rfl); (try simp only [Act.put, List.setIfInBounds_toArray, List.set_cons_zero, List.set_cons_succ, List.getElem_toArray, List.getElem_cons_succ, List.getElem_cons_zero]))   | (refine wpT_load (v := ?_) rfl rfl rfl ?_ ?_; rotate_left; (go_simp; try go_bits) <;> (with_reducible rfl); (try simp only [Act.put, List.setIfInBounds_toArray, List.set_cons_zero, List.set_cons_succ, List.getElem_toArray, List.getElem_cons_succ, List.getElem_cons_zero]))   | (refine wpT_read (v := ?_) rfl rfl ?_ ?_; rotate_left; (intro wx hx; go_simp; try go_bits) <;> (with_reducible rfl); (try simp only [Act.put, List.setIfInBounds_toArray, List.set_cons_zero, List.set_cons_succ, List.getElem_toArray, List.getElem_cons_succ, List.getElem_cons_zero]))   | (refine wpT_call rfl rfl ?_; intro K hK)   | (refine wpT_late rfl rfl ?_; intro K hK)   | (refine wpT_any rfl rfl ?_; intro K hK)   | (refine wpT_skip rfl rfl ?_; (try simp only [Act.put, List.setIfInBounds_toArray, List.set_cons_zero, List.set_cons_succ, List.getElem_toArray, List.getElem_cons_succ, List.getElem_cons_zero]))
          | (go_at_call 13; (with_reducible refine (N2.out _).mono ?_); rintro e w' ⟨rfl, rfl⟩)
          | (go_at_call 13; (with_reducible refine (N3.out _).mono ?_); rintro e w' ⟨rfl, rfl⟩)
          | (go_at_call 10; (with_reducible refine (HAW.out _).mono ?_); rintro e w' ⟨rfl, hb⟩; have HB := hide ((Below.refl w.heap.size w).drew.trans (hb.mono (Below.refl w.heap.size w).drew.size))))
        go_ret
        exact ⟨rfl, HB.out⟩
    · have l4 : decide ((4 : Int) ≤ (n : Int)) = false := by simp; omega
      have l4' : decide (4 ≤ n) = false := by simp; omega
      clear c5 x5
      cases b
      all_goals
        go_enter Try.func4, Try.ntmps4
        go_wp2_with (first
          | (go_at_call 13; (with_reducible refine (N0.out _).mono ?_); rintro e w' ⟨rfl, rfl⟩)
          | (go_at_call 13; (with_reducible refine (NX.out _).mono ?_); rintro e w' ⟨rfl, rfl⟩)
          | (go_at_call 13; (with_reducible refine (N1.out _).mono ?_); rintro e w' ⟨rfl, rfl⟩))
        refine wp_region_T [(0, 1), (1, 1), (2, 1), (3, 1), (4, 1), (5, 1), (6, 1), (7, 1), (8, 2), (9, 1), (10, 1), (11, 2), (12, 1), (13, 1), (14, 1), (15, 2), (16, 1), (17, 1)] (by kernel_rfl) (by kernel_rfl) (fun _ _ _ _ h => h) ?_
        go_wp2_with (first
          | (refine wpT_nil ?_)   | ((with_reducible refine fromT_refl ?_); (try simp only [Act.put, List.setIfInBounds_toArray, List.set_cons_zero, List.set_cons_succ, List.getElem_toArray, List.getElem_cons_succ, List.getElem_cons_zero]))   | ((with_reducible refine fromT_mk (by assumption) ?_); (try simp only [Act.put, List.setIfInBounds_toArray, List.set_cons_zero, List.set_cons_succ, List.getElem_toArray, List.getElem_cons_succ, List.getElem_cons_zero]))   | (refine wpT_pure (v := ?_) rfl rfl ?_ ?_; rotate_left; (intro wx; go_simp; try go_bits) <;> (with_reducible rfl); (try simp only [Act.put, List.setIfInBounds_toArray, List.set_cons_zero, List.set_cons_succ, List.getElem_toArray, List.getElem_cons_succ, List.getElem_cons_zero]))   | (refine wpT_load (v := ?_) rfl rfl rfl ?_ ?_; rotate_left; (go_simp; try go_bits) <;> (with_reducible rfl); (try simp only [Act.put, List.setIfInBounds_toArray, List.set_cons_zero, List.set_cons_succ, List.getElem_toArray, List.getElem_cons_succ, List.getElem_cons_zero]))   | (refine wpT_read (v := ?_) rfl rfl ?_ ?_; rotate_left; (intro wx hx; go_simp; try go_bits) <;> (with_reducible rfl); (try simp only [Act.put, List.setIfInBounds_toArray, List.set_cons_zero, List.set_cons_succ, List.getElem_toArray, List.getElem_cons_succ, List.getElem_cons_zero]))   | (refine wpT_call rfl rfl ?_; intro K hK)   | (refine wpT_late rfl rfl ?_; intro K hK)   | (refine wpT_any rfl rfl ?_; intro K hK)   | (refine wpT_skip rfl rfl ?_; (try simp only [Act.put, List.setIfInBounds_toArray, List.set_cons_zero, List.set_cons_succ, List.getElem_toArray, List.getElem_cons_succ, List.getElem_cons_zero]))
          | (go_at_call 13; (with_reducible refine (N2.out _).mono ?_); rintro e w' ⟨rfl, rfl⟩)
          | (go_at_call 13; (with_reducible refine (N3.out _).mono ?_); rintro e w' ⟨rfl, rfl⟩)
          | (go_at_call 10; (with_reducible refine (HAW.out _).mono ?_); rintro e w' ⟨rfl, hb⟩; have HB := hide ((Below.refl w.heap.size w).drew.trans (hb.mono (Below.refl w.heap.size w).drew.size))))
        go_ret
        exact ⟨rfl, HB.out⟩
theorem termNames_str (s : ByteArray) (turn : Int) (hs : s.size ≤ maxLen) (w : World) : Calls Try.prog 4 #[.string s, .int .i64 turn] w fun e w' => e = .returned (.bool true) ∧ Below w.heap.size w w' := by
  have h := termNames_walk s.data.toList turn (by rw [Array.length_toList]; unfold maxLen at hs; exact hs) w
  have es : (⟨s.data.toList.toArray⟩ : ByteArray) = s := by cases s; rfl
  rw [strOf_eq, es] at h
  exact h
end Go.Proofs.Ytjamoifenkdneaa
