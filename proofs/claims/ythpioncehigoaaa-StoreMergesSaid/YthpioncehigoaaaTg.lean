/-
  Layer 7: the page's Compare and Same; names.
-/
import Derived.Test.YthpioncehigoaaaTf
import Derived.Test.YthpioncehigoaaaTs
set_option linter.unusedVariables false
namespace Go.Proofs.Ythpioncehigoaaa
open Go.RowKit
set_option linter.unusedSimpArgs false

set_option maxRecDepth 100000 in
set_option maxHeartbeats 800000 in
theorem compareR_any (t u : Tm) (w : World) (ht : TmOK w t) (hu : TmOK w u) : Calls Try.prog 67 #[t.val, u.val] w fun e w' => e = .returned (.int .i64 (cmpA t u)) ∧ Below w.heap.size w w' := by
  have h := fun W (hW : Below w.heap.size w W) => cmpR_any 3 (by omega) t u W (ht.on hW) (hu.on hW)
  have H := hide h
  clear h ht hu
  unfold cmpA
  rw [show ((3 : Nat) : Int) = 3 from rfl] at H
  unfold Tm.val Tm.row at *
  generalize cmpT 3 t u = z at H ⊢
  go_enter Try.func67, Try.ntmps67
  go_wp2_with (go_at_call 77; (with_reducible refine (H.out _ (((Below.refl _ _).al _).al _)).mono ?_); rintro e w' ⟨rfl, hb⟩; have HB := hide ((((Below.refl _ _).al _).al _).trans (hb.mono (((Below.refl _ _).al _).al _).size)); clear hb)
  go_ret
  exact ⟨rfl, HB.out⟩
/-- Letters; what may stand within a name. -/
@[irreducible] def letB (x : Int) : Bool := (decide (97 ≤ x) && decide (x ≤ 122)) || (decide (65 ≤ x) && decide (x ≤ 90))
@[irreducible] def innB (x : Int) : Bool := letB x || (decide (48 ≤ x) && decide (x ≤ 57)) || decide (x = 95) || decide (x = 58)
theorem inn_of_let {x : Int} (h : letB x = true) : innB x = true := by unfold innB; rw [h]; simp
set_option maxRecDepth 100000 in
set_option maxHeartbeats 800000 in
theorem letter_any (x : Int) (w : World) : Calls Try.prog 60 #[.int .u8 x] w fun e w' => e = .returned (.bool (letB x)) ∧ w = w' := by
  have h : letB x = ((decide (97 ≤ x) && decide (x ≤ 122)) || (decide (65 ≤ x) && decide (x ≤ 90))) := by unfold letB; rfl
  rw [h]
  clear h
  obtain ⟨b1, e1⟩ : ∃ b, decide (97 ≤ x) = b := ⟨_, rfl⟩
  obtain ⟨b2, e2⟩ : ∃ b, decide (x ≤ 122) = b := ⟨_, rfl⟩
  obtain ⟨b3, e3⟩ : ∃ b, decide (65 ≤ x) = b := ⟨_, rfl⟩
  obtain ⟨b4, e4⟩ : ∃ b, decide (x ≤ 90) = b := ⟨_, rfl⟩
  rw [e1, e2, e3, e4]
  cases b1 <;> cases b2 <;> cases b3 <;> cases b4
  all_goals
    go_enter Try.func60, Try.ntmps60
    go_wp2_with fail
    go_ret
    exact ⟨rfl, rfl⟩
set_option maxRecDepth 100000 in
set_option maxHeartbeats 800000 in
theorem letterR_any (x : Int) (w : World) : Calls Try.prog 58 #[.int .u8 x] w fun e w' => e = .returned (.bool (letB x)) ∧ w = w' := by
  have h : letB x = ((decide (97 ≤ x) && decide (x ≤ 122)) || (decide (65 ≤ x) && decide (x ≤ 90))) := by unfold letB; rfl
  rw [h]
  clear h
  obtain ⟨b1, e1⟩ : ∃ b, decide (97 ≤ x) = b := ⟨_, rfl⟩
  obtain ⟨b2, e2⟩ : ∃ b, decide (x ≤ 122) = b := ⟨_, rfl⟩
  obtain ⟨b3, e3⟩ : ∃ b, decide (65 ≤ x) = b := ⟨_, rfl⟩
  obtain ⟨b4, e4⟩ : ∃ b, decide (x ≤ 90) = b := ⟨_, rfl⟩
  rw [e1, e2, e3, e4]
  cases b1 <;> cases b2 <;> cases b3 <;> cases b4
  all_goals
    go_enter Try.func58, Try.ntmps58
    go_wp2_with fail
    go_ret
    exact ⟨rfl, rfl⟩
set_option maxRecDepth 100000 in
set_option maxHeartbeats 800000 in
theorem inner_any (x : Int) (w : World) : Calls Try.prog 59 #[.int .u8 x] w fun e w' => e = .returned (.bool (innB x)) ∧ w = w' := by
  have h : innB x = (letB x || (decide (48 ≤ x) && decide (x ≤ 57)) || decide (x = 95) || decide (x = 58)) := by unfold innB; rfl
  rw [h]
  clear h
  have H := hide (fun W => letterR_any x W)
  generalize letB x = b0 at H ⊢
  obtain ⟨b1, e1⟩ : ∃ b, decide (48 ≤ x) = b := ⟨_, rfl⟩
  obtain ⟨b2, e2⟩ : ∃ b, decide (x ≤ 57) = b := ⟨_, rfl⟩
  obtain ⟨b3, e3⟩ : ∃ b, decide (x = 95) = b := ⟨_, rfl⟩
  obtain ⟨b4, e4⟩ : ∃ b, decide (x = 58) = b := ⟨_, rfl⟩
  rw [e1, e2, e3, e4]
  have e5 : (x == 95) = b3 := by rw [← e3, Bool.eq_iff_iff]; simp
  have e6 : (x == 58) = b4 := by rw [← e4, Bool.eq_iff_iff]; simp
  cases b0 <;> cases b1 <;> cases b2 <;> cases b3 <;> cases b4
  all_goals
    go_enter Try.func59, Try.ntmps59
    go_wp2_with (go_at_call 58; (with_reducible refine (H.out _).mono ?_); rintro e w' ⟨rfl, rfl⟩)
    go_ret
    exact ⟨rfl, rfl⟩
def hexL : List UInt8 := [104, 101, 120, 58]
@[irreducible] def preH (s : List UInt8) : Bool := decide (4 ≤ s.length) && (s.take 4 == hexL)
set_option maxRecDepth 100000 in
set_option maxHeartbeats 800000 in
theorem pre_any (s : List UInt8) (hl : s.length ≤ 9223372036854775807) (w : World) : Calls Try.prog 61 #[.string (strOf s), .string ⟨#[104, 101, 120, 58]⟩] w fun e w' => e = .returned (.bool (preH s)) ∧ w = w' := by
  have hL := fun W => run_lenS (P := Try.prog) (t := 9) (ty := 3) (by kernel_rfl) s W
  have hp : preH s = (decide (4 ≤ s.length) && (s.take 4 == hexL)) := by unfold preH; rfl
  have H : ∀ W, Calls Try.prog 74 #[.string (strOf s), .string ⟨#[104, 101, 120, 58]⟩] W fun e w' => e = .returned (.bool (preH s)) ∧ W = w' := fun W => by
    rw [hp]
    by_cases h4 : 4 ≤ s.length
    · have d : decide ((4 : Int) ≤ (s.length : Int)) = true := by simp; omega
      have d' : decide (4 ≤ s.length) = true := by simp; omega
      have hc := fun W => run_cutTo (P := Try.prog) (t := 9) (by kernel_rfl) s 4 h4 W
      rw [show ((4 : Nat) : Int) = 4 from rfl] at hc
      rw [d']
      generalize s.take 4 = y at hc ⊢
      unfold hexL
      clear hp h4
      go_enter Try.func74, Try.ntmps74
      go_wp2_with fail
      go_ret
      exact ⟨rfl, rfl⟩
    · have d : decide ((4 : Int) ≤ (s.length : Int)) = false := by simp; omega
      have d' : decide (4 ≤ s.length) = false := by simp; omega
      rw [d']
      clear hp h4
      go_enter Try.func74, Try.ntmps74
      go_wp2_with fail
      go_ret
      exact ⟨rfl, rfl⟩
  have HH := hide H
  clear H hp hL
  generalize preH s = b at HH ⊢
  go_enter Try.func61, Try.ntmps61
  go_wp2_with (go_at_call 74; (with_reducible refine (HH.out _).mono ?_); rintro e w' ⟨rfl, rfl⟩)
  go_ret
  exact ⟨rfl, rfl⟩
/-- A name: letters and the like, the first a letter; as long as it may be. -/
def scanN : Nat → List UInt8 → Bool
  | _, [] => true
  | i, c :: l => (letB (c.toNat : Int) || (decide (i ≠ 0) && innB (c.toNat : Int))) && scanN (i + 1) l
@[irreducible] def nameT (s : List UInt8) : Bool := scanN 0 s && (decide (1 ≤ s.length) && (decide (s.length ≤ 32) && !preH s))
end Go.Proofs.Ythpioncehigoaaa
