/-
  Layer 7: Name, the program's and the page's.
-/
import Derived.Test.YthpioncehigoaaaTg
set_option linter.unusedVariables false
namespace Go.Proofs.Ythpioncehigoaaa
open Go.RowKit
set_option linter.unusedSimpArgs false

def okAt (k : Nat) (x : Int) : Bool := letB x || (decide (k ≠ 0) && innB x)
theorem okAt_bad {k : Nat} {x : Int} (hL : letB x = false) : okAt k x = (decide (k ≠ 0) && ((decide (48 ≤ x) && decide (x ≤ 57)) || decide (x = 95) || decide (x = 58))) := by
  unfold okAt innB
  rw [hL]
  simp
set_option maxRecDepth 100000 in
set_option maxHeartbeats 1600000 in
theorem name_any (s : List UInt8) (hl : s.length ≤ 9223372036854775807) (w : World) : Calls Try.prog 38 #[.string (strOf s)] w fun e w' => e = .returned (.bool (nameT s)) ∧ w = w' := by
  have hL := fun W => run_lenS (P := Try.prog) (t := 9) (ty := 3) (by kernel_rfl) s W
  have HP := hide (fun W => pre_any s hl W)
  have hT : nameT s = (scanN 0 s && (decide (1 ≤ s.length) && (decide (s.length ≤ 32) && !preH s))) := by unfold nameT; rfl
  have HT := hide hT
  clear hT
  obtain ⟨n, hn⟩ : ∃ n, n = s.length := ⟨_, rfl⟩
  rw [← hn] at hL hl
  have HN := hide hn
  clear hn
  go_enter Try.func38, Try.ntmps38
  go_wp2_with fail
  go_loopw [7] (fun i wr => ∃ k : Nat, k ≤ n ∧ i = .int .i64 (k : Int) ∧ Hid (scanN k (s.drop k) = scanN 0 s) ∧ wr = w) (fun i _ => (n - intOf i).toNat)
  case atStart => exact ⟨0, by omega, rfl, rfl, rfl⟩
  case round =>
    obtain ⟨k, hk, rfl, HS, rfl⟩ := hrel
    by_cases hlt : k < n
    · have hd : decide ((k : Int) < (n : Int)) = true := by simp; omega
      have k1 : k < s.length := by have := HN.out; omega
      have i0 := fun W => run_idxAt (P := Try.prog) (t := 9) (by kernel_rfl) s k s[k] (List.getElem?_eq_getElem k1) W
      have HD : Hid (scanN 0 s = (okAt k (s[k].toNat : Int) && scanN (k + 1) (s.drop (k + 1)))) := by
        refine hide ?_
        rw [← HS.out, List.drop_eq_getElem_cons k1, scanN]
        rfl
      have x1 : (s[k].toNat : Int) < 256 := by have := s[k].toNat_lt; omega
      have x0 : 0 ≤ (s[k].toNat : Int) := by omega
      generalize (s[k].toNat : Int) = x at i0 HD x0 x1
      have HL := hide (fun W => letter_any x W)
      have HLT := hide hlt
      clear hlt k1
      cases hb : letB x
      · rw [hb] at HL
        have HO := hide (okAt_bad (k := k) hb)
        clear hb
        by_cases h0 : k = 0
        · have z : ((k : Int) == 0) = true := by simp [h0]
          have HF : Hid (nameT s = false) := by
            refine hide ?_
            rw [HT.out, HD.out, HO.out, h0]
            rfl
          clear h0
          go_wp2_with (go_at_call 60; (with_reducible refine (HL.out _).mono ?_); rintro e w' ⟨rfl, rfl⟩)
          go_ret
          rw [HF.out]
          exact ⟨rfl, rfl⟩
        · have z : ((k : Int) == 0) = false := by simp [h0]
          have HO1 : Hid (okAt k x = (((decide (48 ≤ x) && decide (x ≤ 57)) || decide (x = 95) || decide (x = 58)))) := by
            refine hide ?_
            rw [HO.out, decide_eq_true (show k ≠ 0 from h0)]
            rfl
          obtain ⟨b1, e1⟩ : ∃ b, decide (x < 48) = b := ⟨_, rfl⟩
          obtain ⟨b2, e2⟩ : ∃ b, decide (57 < x) = b := ⟨_, rfl⟩
          obtain ⟨b3, e3⟩ : ∃ b, decide (x = 95) = b := ⟨_, rfl⟩
          obtain ⟨b4, e4⟩ : ∃ b, decide (x = 58) = b := ⟨_, rfl⟩
          have HO2 : Hid (okAt k x = ((!b1 && !b2) || b3 || b4)) := by
            refine hide ?_
            rw [HO1.out, ← e1, ← e2, ← e3, ← e4]
            congr 3
            congr 1
            · rw [Bool.eq_iff_iff]; simp
            · rw [Bool.eq_iff_iff]; simp
          have e5 : (x == 95) = b3 := by rw [← e3, Bool.eq_iff_iff]; simp
          have e6 : (x == 58) = b4 := by rw [← e4, Bool.eq_iff_iff]; simp
          have e7 : (x != 95) = !b3 := by rw [← e5]; rfl
          have e8 : (x != 58) = !b4 := by rw [← e6]; rfl
          clear HO HO1 h0
          cases b1 <;> cases b2 <;> cases b3 <;> cases b4
          all_goals simp only [Bool.not_true, Bool.not_false] at e7 e8
          all_goals
            go_wp2_with (go_at_call 60; (with_reducible refine (HL.out _).mono ?_); rintro e w' ⟨rfl, rfl⟩)
            first
              | (go_ret
                 have hf : nameT s = false := by rw [HT.out, HD.out, HO2.out]; rfl
                 rw [hf]
                 exact ⟨rfl, rfl⟩)
              | (go_round
                 case rel => exact ⟨k + 1, by have := HLT.out; omega, by go_num, hide (by rw [HD.out, HO2.out]; rfl), by first | rfl | trivial⟩
                 case measure => (have := HLT.out); (simp [intOf]) <;> omega)
      · rw [hb] at HL
        have HO : Hid (okAt k x = true) := hide (by unfold okAt; rw [hb]; rfl)
        clear hb
        go_wp2_with (go_at_call 60; (with_reducible refine (HL.out _).mono ?_); rintro e w' ⟨rfl, rfl⟩)
        go_round
        case rel => exact ⟨k + 1, by have := HLT.out; omega, by go_num, hide (by rw [HD.out, HO.out]; rfl), by first | rfl | trivial⟩
        case measure => (have := HLT.out); (simp [intOf]) <;> omega
    · have hd : decide ((k : Int) < (n : Int)) = false := by simp; omega
      have HF : Hid (nameT s = (decide (1 ≤ n) && (decide (n ≤ 32) && !preH s))) := by
        refine hide ?_
        have h1 := HS.out
        rw [List.drop_of_length_le (by have := HN.out; omega), scanN] at h1
        rw [HT.out, ← h1, ← HN.out]
        rfl
      generalize preH s = p at HP HF
      clear HS HT
      by_cases h1 : 1 ≤ n
      · have d1 : decide ((1 : Int) ≤ (n : Int)) = true := by simp; omega
        have d1' : decide (1 ≤ n) = true := by simp; omega
        by_cases h2 : n ≤ 32
        · have d2 : decide ((n : Int) ≤ 32) = true := by simp; omega
          have d2' : decide (n ≤ 32) = true := by simp; omega
          have HG : Hid (nameT s = !p) := hide (by rw [HF.out, d1', d2']; rfl)
          clear HF h1 h2
          go_wp2_with (go_at_call 61; (with_reducible refine (HP.out _).mono ?_); rintro e w' ⟨rfl, rfl⟩)
          go_ret
          rw [HG.out]
          exact ⟨rfl, rfl⟩
        · have d2 : decide ((n : Int) ≤ 32) = false := by simp; omega
          have d2' : decide (n ≤ 32) = false := by simp; omega
          have HG : Hid (nameT s = false) := hide (by rw [HF.out, d1', d2']; rfl)
          clear HF h1 h2
          go_wp2_with fail
          go_ret
          rw [HG.out]
          exact ⟨rfl, rfl⟩
      · have d1 : decide ((1 : Int) ≤ (n : Int)) = false := by simp; omega
        have d1' : decide (1 ≤ n) = false := by simp; omega
        have HG : Hid (nameT s = false) := hide (by rw [HF.out, d1']; rfl)
        clear HF h1
        go_wp2_with fail
        go_ret
        rw [HG.out]
        exact ⟨rfl, rfl⟩
end Go.Proofs.Ythpioncehigoaaa
