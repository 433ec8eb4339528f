/-
  Layer 7: cmp's functions; a row compared with a row, by whatever function.
-/
import Derived.Test.YthpioncehigoaaaTa
import Derived.Test.YthpioncehigoaaaTy
import Derived.Laws.Cover1
set_option linter.unusedVariables false
namespace Go.Proofs.Ythpioncehigoaaa
open Go.RowKit
set_option linter.unusedSimpArgs false

theorem nanI_any (a : Int) (w : World) : Calls Try.prog 54 #[.int .i64 a] w fun e w' => e = .returned (.bool false) ∧ w = w' := by
  go_enter Try.func54, Try.ntmps54
  go_wp2_with fail
  go_ret
  exact ⟨rfl, rfl⟩
theorem nanJ_any (a : Int) (w : World) : Calls Try.prog 78 #[.int .i64 a] w fun e w' => e = .returned (.bool false) ∧ w = w' := by
  go_enter Try.func78, Try.ntmps78
  go_wp2_with fail
  go_ret
  exact ⟨rfl, rfl⟩
theorem nanS_any (a : List UInt8) (w : World) : Calls Try.prog 53 #[.string (strOf a)] w fun e w' => e = .returned (.bool false) ∧ w = w' := by
  go_enter Try.func53, Try.ntmps53
  go_wp2_with fail
  go_ret
  exact ⟨rfl, rfl⟩
set_option maxRecDepth 100000 in
set_option maxHeartbeats 800000 in
theorem cmpI_any (a b : Int) (w : World) : Calls Try.prog 29 #[.int .i64 a, .int .i64 b] w fun e w' => e = .returned (.int .i64 (cmpI a b)) ∧ w = w' := by
  have H1 := hide (fun W => nanI_any a W)
  have H2 := hide (fun W => nanI_any b W)
  unfold cmpI
  by_cases h1 : a < b
  · have d1 : decide (a < b) = true := decide_eq_true h1
    rw [if_pos h1]
    go_enter Try.func29, Try.ntmps29
    go_wp2_with (first
      | (go_at_call 54; (with_reducible refine (H1.out _).mono ?_); rintro e w' ⟨rfl, rfl⟩)
      | (go_at_call 54; (with_reducible refine (H2.out _).mono ?_); rintro e w' ⟨rfl, rfl⟩))
    go_ret
    exact ⟨rfl, rfl⟩
  · have d1 : decide (a < b) = false := decide_eq_false h1
    rw [if_neg h1]
    by_cases h2 : b < a
    · have d2 : decide (b < a) = true := decide_eq_true h2
      rw [if_pos h2]
      go_enter Try.func29, Try.ntmps29
      go_wp2_with (first
        | (go_at_call 54; (with_reducible refine (H1.out _).mono ?_); rintro e w' ⟨rfl, rfl⟩)
        | (go_at_call 54; (with_reducible refine (H2.out _).mono ?_); rintro e w' ⟨rfl, rfl⟩))
      go_ret
      exact ⟨rfl, rfl⟩
    · have d2 : decide (b < a) = false := decide_eq_false h2
      rw [if_neg h2]
      go_enter Try.func29, Try.ntmps29
      go_wp2_with (first
        | (go_at_call 54; (with_reducible refine (H1.out _).mono ?_); rintro e w' ⟨rfl, rfl⟩)
        | (go_at_call 54; (with_reducible refine (H2.out _).mono ?_); rintro e w' ⟨rfl, rfl⟩))
      go_ret
      exact ⟨rfl, rfl⟩
set_option maxRecDepth 100000 in
set_option maxHeartbeats 800000 in
theorem cmpJ_any (a b : Int) (w : World) : Calls Try.prog 71 #[.int .i64 a, .int .i64 b] w fun e w' => e = .returned (.int .i64 (cmpI a b)) ∧ w = w' := by
  have H1 := hide (fun W => nanJ_any a W)
  have H2 := hide (fun W => nanJ_any b W)
  unfold cmpI
  by_cases h1 : a < b
  · have d1 : decide (a < b) = true := decide_eq_true h1
    rw [if_pos h1]
    go_enter Try.func71, Try.ntmps71
    go_wp2_with (first
      | (go_at_call 78; (with_reducible refine (H1.out _).mono ?_); rintro e w' ⟨rfl, rfl⟩)
      | (go_at_call 78; (with_reducible refine (H2.out _).mono ?_); rintro e w' ⟨rfl, rfl⟩))
    go_ret
    exact ⟨rfl, rfl⟩
  · have d1 : decide (a < b) = false := decide_eq_false h1
    rw [if_neg h1]
    by_cases h2 : b < a
    · have d2 : decide (b < a) = true := decide_eq_true h2
      rw [if_pos h2]
      go_enter Try.func71, Try.ntmps71
      go_wp2_with (first
        | (go_at_call 78; (with_reducible refine (H1.out _).mono ?_); rintro e w' ⟨rfl, rfl⟩)
        | (go_at_call 78; (with_reducible refine (H2.out _).mono ?_); rintro e w' ⟨rfl, rfl⟩))
      go_ret
      exact ⟨rfl, rfl⟩
    · have d2 : decide (b < a) = false := decide_eq_false h2
      rw [if_neg h2]
      go_enter Try.func71, Try.ntmps71
      go_wp2_with (first
        | (go_at_call 78; (with_reducible refine (H1.out _).mono ?_); rintro e w' ⟨rfl, rfl⟩)
        | (go_at_call 78; (with_reducible refine (H2.out _).mono ?_); rintro e w' ⟨rfl, rfl⟩))
      go_ret
      exact ⟨rfl, rfl⟩
set_option maxRecDepth 100000 in
set_option maxHeartbeats 800000 in
theorem cmpS_any (a b : List UInt8) (w : World) : Calls Try.prog 28 #[.string (strOf a), .string (strOf b)] w fun e w' => e = .returned (.int .i64 (cmpS a b)) ∧ w = w' := by
  have H1 := hide (fun W => nanS_any a W)
  have H2 := hide (fun W => nanS_any b W)
  rcases bl_tri a b with h | h | h
  · rw [cmpS_lt.2 h]
    go_enter Try.func28, Try.ntmps28
    go_wp2_with (first
      | (go_at_call 53; (with_reducible refine (H1.out _).mono ?_); rintro e w' ⟨rfl, rfl⟩)
      | (go_at_call 53; (with_reducible refine (H2.out _).mono ?_); rintro e w' ⟨rfl, rfl⟩))
    go_ret
    exact ⟨rfl, rfl⟩
  · rw [cmpS_eq.2 h]
    subst h
    have h1 := bl_irr a
    go_enter Try.func28, Try.ntmps28
    go_wp2_with (first
      | (go_at_call 53; (with_reducible refine (H1.out _).mono ?_); rintro e w' ⟨rfl, rfl⟩)
      | (go_at_call 53; (with_reducible refine (H2.out _).mono ?_); rintro e w' ⟨rfl, rfl⟩))
    go_ret
    exact ⟨rfl, rfl⟩
  · rw [cmpS_gt.2 h]
    have h1 : Op.bytesLess a b = false := by simpa using bl_no h
    have h2 : (a == b) = false := by
      rw [beq_eq_false_iff_ne]
      intro e
      rw [e, bl_irr] at h
      exact Bool.false_ne_true h
    go_enter Try.func28, Try.ntmps28
    go_wp2_with (first
      | (go_at_call 53; (with_reducible refine (H1.out _).mono ?_); rintro e w' ⟨rfl, rfl⟩)
      | (go_at_call 53; (with_reducible refine (H2.out _).mono ?_); rintro e w' ⟨rfl, rfl⟩))
    go_ret
    exact ⟨rfl, rfl⟩
theorem Rd.isSlice {w : World} {v : Value} {size n : Nat} {xs : List Value} (h : Rd w v size n xs) : ∃ A c, v = .slice A n c ∧ Rd w (.slice A n c) size n xs := by
  have h' := h
  obtain ⟨A, c, rfl, _⟩ := h
  exact ⟨A, c, rfl, h'⟩
/-- Of numbers the first that isn't nothing. -/
def orL : List Int → Int
  | [] => 0
  | x :: l => orI x (orL l)
def ivs (l : List Int) : List Value := l.map (Value.int .i64)
set_option maxRecDepth 100000 in
set_option maxHeartbeats 800000 in
theorem or_any (v : Value) (l : List Int) (w : World) (hl : l.length ≤ 100) (hr : Rd w v 1 l.length (ivs l)) : Calls Try.prog 27 #[v] w fun e w' => e = .returned (.int .i64 (orL l)) ∧ w = w' := by
  obtain ⟨A, c, rfl, hr⟩ := Rd.isSlice hr
  have HR := hide hr
  clear hr
  obtain ⟨n, hn⟩ : ∃ n, n = l.length := ⟨_, rfl⟩
  rw [← hn] at hl HR ⊢
  have HN := hide hn
  clear hn
  go_enter Try.func27, Try.ntmps27
  go_wp2_with fail
  go_loopw [8] (fun i wr => ∃ k : Nat, k ≤ n ∧ i = .int .i64 (k : Int) ∧ Hid (orL (l.drop k) = orL l) ∧ wr = w) (fun i _ => (n - intOf i).toNat)
  case atStart => exact ⟨0, by omega, rfl, rfl, rfl⟩
  case round =>
    obtain ⟨k, hk, rfl, HS, rfl⟩ := hrel
    by_cases hlt : k < n
    · have hd : decide ((k : Int) < (n : Int)) = true := by simp; omega
      have k1 : k < l.length := by have := HN.out; omega
      obtain ⟨b, o, rfl, hlt8, hc⟩ := rd_at HR.out (k := k) (u := .int .i64 l[k]) (by unfold ivs; rw [List.getElem?_map, List.getElem?_eq_getElem k1]; rfl)
      have hs := HS.out
      rw [List.drop_eq_getElem_cons k1, orL, orI] at hs
      have HX := hide hs
      clear hs
      generalize l[k] = x at hc HX
      have HL := hide hlt
      clear hlt k1
      by_cases hx : x = 0
      · have e1 : (x != 0) = false := by simp [hx]
        have e2 : Hid (orL (l.drop (k + 1)) = orL l) := by
          have := HX.out
          rw [if_pos hx] at this
          exact this
        clear hx
        go_wp2_with fail
        go_round
        case rel => exact ⟨k + 1, by have := HL.out; omega, by go_num, e2, by first | rfl | trivial⟩
        case measure => (have := HL.out); (simp [intOf]) <;> omega
      · have e1 : (x != 0) = true := by simp [hx]
        have e2 : Hid (x = orL l) := by
          have := HX.out
          rw [if_neg hx] at this
          exact this
        clear hx HX
        go_wp2_with fail
        go_ret
        rw [← e2.out]
        exact ⟨rfl, rfl⟩
    · have hd : decide ((k : Int) < (n : Int)) = false := by simp; omega
      have h0 : orL l = 0 := by
        rw [← HS.out, List.drop_of_length_le (by have := HN.out; omega)]
        rfl
      have H0 := hide h0
      clear h0
      go_wp2_with fail
      go_ret
      rw [H0.out]
      exact ⟨rfl, rfl⟩
end Go.Proofs.Ythpioncehigoaaa
