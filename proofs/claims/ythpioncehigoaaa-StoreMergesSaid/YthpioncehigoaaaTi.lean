/-
  Layer 7: the page's Name.
-/
import Derived.Test.YthpioncehigoaaaTh
set_option linter.unusedVariables false
namespace Go.Proofs.Ythpioncehigoaaa
open Go.RowKit
set_option linter.unusedSimpArgs false

def allN : List UInt8 → Bool
  | [] => true
  | c :: l => innB (c.toNat : Int) && allN l
theorem scan_all : ∀ (l : List UInt8) (k : Nat), k ≠ 0 → scanN k l = allN l
  | [], _, _ => rfl
  | c :: l, k, h => by
    rw [scanN, allN, scan_all l (k + 1) (by omega), decide_eq_true h]
    cases hL : letB (c.toNat : Int)
    · simp
    · rw [inn_of_let hL]
      simp
theorem scan_first {c : UInt8} {l : List UInt8} (h : letB (c.toNat : Int) = true) : scanN 0 (c :: l) = allN (c :: l) := by
  rw [scanN, allN, scan_all l 1 (by omega), h, inn_of_let h]
  rfl
set_option maxRecDepth 100000 in
set_option maxHeartbeats 1600000 in
theorem nameR_any (s : List UInt8) (hl : s.length ≤ 9223372036854775807) (w : World) : Calls Try.prog 35 #[.string (strOf s)] w fun e w' => e = .returned (.bool (nameT s)) ∧ w = w' := by
  have hL := fun W => run_lenS (P := Try.prog) (t := 9) (ty := 3) (by kernel_rfl) s W
  have hT : nameT s = (scanN 0 s && (decide (1 ≤ s.length) && (decide (s.length ≤ 32) && !preH s))) := by unfold nameT; rfl
  have hP : preH s = (decide (4 ≤ s.length) && (s.take 4 == hexL)) := by unfold preH; rfl
  have HT := hide hT
  have HP := hide hP
  clear hT hP
  obtain ⟨n, hn⟩ : ∃ n, n = s.length := ⟨_, rfl⟩
  rw [← hn] at hL hl HT HP
  have HN := hide hn
  by_cases h1 : 1 ≤ n
  · have d1 : decide ((n : Int) < 1) = false := by simp; omega
    have d1' : decide (1 ≤ n) = true := by simp; omega
    have d1n : ¬ n < 1 := by omega
    by_cases h2 : n ≤ 32
    · have d2 : decide (32 < (n : Int)) = false := by simp; omega
      have d2' : decide (n ≤ 32) = true := by simp; omega
      have d2n : ¬ 32 < n := by omega
      obtain ⟨c, t, rfl⟩ : ∃ c t, s = c :: t := by
        cases s with
        | nil => simp at hn; omega
        | cons c t => exact ⟨c, t, rfl⟩
      have i0 := fun W => run_idxAt (P := Try.prog) (t := 9) (by kernel_rfl) (c :: t) 0 c rfl W
      rw [show ((0 : Nat) : Int) = 0 from rfl] at i0
      have HSF := hide (fun h => scan_first (c := c) (l := t) h)
      have HS0 : Hid (letB (c.toNat : Int) = false → scanN 0 (c :: t) = false) := hide (fun h => by rw [scanN, h]; rfl)
      have HLE := hide (fun W => letterR_any (c.toNat : Int) W)
      generalize (c.toNat : Int) = x at i0 HLE HSF HS0
      generalize hs : c :: t = s at *
      clear hs hn c t h1
      cases hb : letB x
      · rw [hb] at HLE
        have HF : Hid (nameT s = false) := hide (by rw [HT.out, HS0.out hb]; rfl)
        clear hb HS0 HSF
        go_enter Try.func35, Try.ntmps35
        go_wp2_with (go_at_call 58; (with_reducible refine (HLE.out _).mono ?_); rintro e w' ⟨rfl, rfl⟩)
        go_ret
        rw [HF.out]
        exact ⟨rfl, rfl⟩
      · rw [hb] at HLE
        have HA := hide (HSF.out hb)
        clear hb HS0 HSF
        have hpre : ∃ b4 b5 : Bool, decide (4 ≤ (n : Int)) = b4 ∧ (b4 = true → ∀ W, (Instr.sliceAt 9 (.string (strOf s)) none (some (.int .i64 4)) none).run Try.prog W = .ok (.string (strOf (s.take 4))) W) ∧ (s.take 4 == hexL) = b5 ∧ preH s = (b4 && b5) := by
          refine ⟨_, _, rfl, fun h4 W => ?_, rfl, ?_⟩
          · have h4' : 4 ≤ s.length := by
              have := of_decide_eq_true h4
              have := HN.out
              omega
            exact run_cutTo (P := Try.prog) (t := 9) (by kernel_rfl) s 4 h4' W
          · rw [HP.out]
            congr 1
            exact decide_eq_decide.2 (by omega)
        obtain ⟨b4, b5, e4, hcut, e5, hp⟩ := hpre
        unfold hexL at e5
        generalize s.take 4 = y at hcut e5
        have e4' : decide (4 ≤ n) = b4 := by rw [← e4]; exact decide_eq_decide.2 (by omega)
        cases b4
        · clear hcut
          have HG : Hid (nameT s = allN s) := hide (by rw [HT.out, HA.out, d1', d2', hp]; simp)
          have n4 : ¬ 4 ≤ n := of_decide_eq_false e4'
          clear hp
          go_enter Try.func35, Try.ntmps35
          go_wp2_with (go_at_call 58; (with_reducible refine (HLE.out _).mono ?_); rintro e w' ⟨rfl, rfl⟩)
          go_loopw [30] (fun i wr => ∃ k : Nat, k ≤ n ∧ i = .int .i64 (k : Int) ∧ Hid (allN (s.drop k) = allN s) ∧ wr = w) (fun i _ => (n - intOf i).toNat)
          case atStart => exact ⟨0, by omega, rfl, rfl, rfl⟩
          case round =>
            obtain ⟨k, hk, rfl, HS, rfl⟩ := hrel
            by_cases hlt : k < n
            · have hd : decide ((k : Int) < (n : Int)) = true := by simp; omega
              have k1 : k < s.length := by have := HN.out; omega
              have i0 := fun W => run_idxAt (P := Try.prog) (t := 9) (by kernel_rfl) s k s[k] (List.getElem?_eq_getElem k1) W
              have HD : Hid (allN s = (innB (s[k].toNat : Int) && allN (s.drop (k + 1)))) := by
                refine hide ?_
                rw [← HS.out, List.drop_eq_getElem_cons k1, allN]
              generalize (s[k].toNat : Int) = x at i0 HD
              have HI := hide (fun W => inner_any x W)
              have HLT := hide hlt
              clear k1
              generalize innB x = b at HI HD
              cases b
              · go_wp2_with (go_at_call 59; (with_reducible refine (HI.out _).mono ?_); rintro e w' ⟨rfl, rfl⟩)
                go_ret
                have hf : nameT s = false := by rw [HG.out, HD.out]; rfl
                rw [hf]
                exact ⟨rfl, rfl⟩
              · go_wp2_with (go_at_call 59; (with_reducible refine (HI.out _).mono ?_); rintro e w' ⟨rfl, rfl⟩)
                go_round
                case rel => exact ⟨k + 1, by have := HLT.out; omega, by go_num, hide (by rw [HD.out]; rfl), by first | rfl | trivial⟩
                case measure => (have := HLT.out); (simp [intOf]) <;> omega
            · have hd : decide ((k : Int) < (n : Int)) = false := by simp; omega
              have HF : Hid (nameT s = true) := by
                refine hide ?_
                rw [HG.out, ← HS.out, List.drop_of_length_le (by have := HN.out; omega)]
                rfl
              go_wp2_with fail
              go_ret
              rw [HF.out]
              exact ⟨rfl, rfl⟩
        · have hc := hcut rfl
          clear hcut
          have n4 : 4 ≤ n := of_decide_eq_true e4'
          cases b5
          · have HG : Hid (nameT s = allN s) := hide (by rw [HT.out, HA.out, d1', d2', hp]; simp)
            clear hp
            go_enter Try.func35, Try.ntmps35
            go_wp2_with (go_at_call 58; (with_reducible refine (HLE.out _).mono ?_); rintro e w' ⟨rfl, rfl⟩)
            go_loopw [30] (fun i wr => ∃ k : Nat, k ≤ n ∧ i = .int .i64 (k : Int) ∧ Hid (allN (s.drop k) = allN s) ∧ wr = w) (fun i _ => (n - intOf i).toNat)
            case atStart => exact ⟨0, by omega, rfl, rfl, rfl⟩
            case round =>
              obtain ⟨k, hk, rfl, HS, rfl⟩ := hrel
              by_cases hlt : k < n
              · have hd : decide ((k : Int) < (n : Int)) = true := by simp; omega
                have k1 : k < s.length := by have := HN.out; omega
                have i0 := fun W => run_idxAt (P := Try.prog) (t := 9) (by kernel_rfl) s k s[k] (List.getElem?_eq_getElem k1) W
                have HD : Hid (allN s = (innB (s[k].toNat : Int) && allN (s.drop (k + 1)))) := by
                  refine hide ?_
                  rw [← HS.out, List.drop_eq_getElem_cons k1, allN]
                generalize (s[k].toNat : Int) = x at i0 HD
                have HI := hide (fun W => inner_any x W)
                have HLT := hide hlt
                clear k1
                generalize innB x = b at HI HD
                cases b
                · go_wp2_with (go_at_call 59; (with_reducible refine (HI.out _).mono ?_); rintro e w' ⟨rfl, rfl⟩)
                  go_ret
                  have hf : nameT s = false := by rw [HG.out, HD.out]; rfl
                  rw [hf]
                  exact ⟨rfl, rfl⟩
                · go_wp2_with (go_at_call 59; (with_reducible refine (HI.out _).mono ?_); rintro e w' ⟨rfl, rfl⟩)
                  go_round
                  case rel => exact ⟨k + 1, by have := HLT.out; omega, by go_num, hide (by rw [HD.out]; rfl), by first | rfl | trivial⟩
                  case measure => (have := HLT.out); (simp [intOf]) <;> omega
              · have hd : decide ((k : Int) < (n : Int)) = false := by simp; omega
                have HF : Hid (nameT s = true) := by
                  refine hide ?_
                  rw [HG.out, ← HS.out, List.drop_of_length_le (by have := HN.out; omega)]
                  rfl
                go_wp2_with fail
                go_ret
                rw [HF.out]
                exact ⟨rfl, rfl⟩
          · have HF : Hid (nameT s = false) := hide (by rw [HT.out, d1', d2', hp]; simp)
            clear hp
            go_enter Try.func35, Try.ntmps35
            go_wp2_with (go_at_call 58; (with_reducible refine (HLE.out _).mono ?_); rintro e w' ⟨rfl, rfl⟩)
            go_ret
            rw [HF.out]
            exact ⟨rfl, rfl⟩
    · have d2 : decide (32 < (n : Int)) = true := by simp; omega
      have d2' : decide (n ≤ 32) = false := by simp; omega
      have HF : Hid (nameT s = false) := hide (by rw [HT.out, d1', d2']; simp)
      clear hn
      go_enter Try.func35, Try.ntmps35
      go_wp2_with fail
      go_ret
      rw [HF.out]
      exact ⟨rfl, rfl⟩
  · have d1 : decide ((n : Int) < 1) = true := by simp; omega
    have d1' : decide (1 ≤ n) = false := by simp; omega
    have HF : Hid (nameT s = false) := hide (by rw [HT.out, d1']; simp)
    clear hn
    go_enter Try.func35, Try.ntmps35
    go_wp2_with fail
    go_ret
    rw [HF.out]
    exact ⟨rfl, rfl⟩
end Go.Proofs.Ythpioncehigoaaa
