/-
  Layer 7: may a term be: kind by kind.
-/
import Derived.Test.YthpioncehigoaaaTi
set_option linter.unusedVariables false
namespace Go.Proofs.Ythpioncehigoaaa
open Go.RowKit
set_option linter.unusedSimpArgs false

/-- What a set's terms are: fixed, no sets, of one kind, rising, not too many. -/
@[irreducible] def mayE (t : Tm) : Bool :=
  if t.k = 1 then nameT t.s && (decide (t.n = 0) && decide (t.l.length = 0))
  else if t.k = 2 then (t.s == []) && decide (t.l.length = 0)
  else if t.k = 3 ∨ t.k = 5 then decide (t.s.length ≤ 256) && (decide (t.n = 0) && decide (t.l.length = 0))
  else if t.k = 4 then (t.s == []) && (decide (0 ≤ t.n) && (decide (t.n ≤ 253402300799) && decide (t.l.length = 0)))
  else if t.k = 6 then (t.s == []) && ((decide (t.n = 0) || decide (t.n = 1)) && decide (t.l.length = 0))
  else false
structure RisP (l : List Tm) : Prop where
  len : l.length ≤ 16
  each : ∀ x ∈ l, mayE x = true ∧ x.k ≠ 1 ∧ x.k ≠ 7
  kind : ∀ x ∈ l, ∀ y ∈ l, x.k = y.k
  up : ∀ (i : Nat) (x y : Tm), l[i]? = some x → l[i + 1]? = some y → cmpA x y < 0
@[irreducible] noncomputable def risT (l : List Tm) : Bool := @decide (RisP l) (Classical.propDecidable _)
theorem risT_iff (l : List Tm) : risT l = true ↔ RisP l := by unfold risT; exact @decide_eq_true_iff _ (Classical.propDecidable _)
theorem risT_no {l : List Tm} (h : ¬ RisP l) : risT l = false := by
  cases h' : risT l
  · rfl
  · exact absurd ((risT_iff l).1 h') h
@[irreducible] noncomputable def mayT (t : Tm) : Bool := if t.k = 7 then decide (t.n = 0) && ((t.s == []) && risT t.l) else mayE t
@[irreducible] noncomputable def fixT (t : Tm) : Bool := decide (t.k ≠ 1) && mayT t
set_option maxRecDepth 100000 in
set_option maxHeartbeats 800000 in
theorem may_step (t : Tm) (w : World) (hb : TmBd t)
    (hr : ∀ W, Below w.heap.size w W → t.k = 7 → Calls Try.prog 75 #[t.row] W fun e w' => e = .returned (.bool (risT t.l)) ∧ Below W.heap.size W w') :
    Calls Try.prog 63 #[t.val] w fun e w' => e = .returned (.bool (mayT t)) ∧ Below w.heap.size w w' := by
  have HN := hide (fun W => name_any t.s hb.2.2.1 W)
  have HM : Hid (mayT t = if t.k = 7 then decide (t.n = 0) && ((t.s == []) && risT t.l) else mayE t) := hide (by unfold mayT; rfl)
  have HE : Hid (mayE t = (if t.k = 1 then nameT t.s && (decide (t.n = 0) && decide (t.l.length = 0))
    else if t.k = 2 then (t.s == []) && decide (t.l.length = 0)
    else if t.k = 3 ∨ t.k = 5 then decide (t.s.length ≤ 256) && (decide (t.n = 0) && decide (t.l.length = 0))
    else if t.k = 4 then (t.s == []) && (decide (0 ≤ t.n) && (decide (t.n ≤ 253402300799) && decide (t.l.length = 0)))
    else if t.k = 6 then (t.s == []) && ((decide (t.n = 0) || decide (t.n = 1)) && decide (t.l.length = 0))
    else false)) := hide (by unfold mayE; rfl)
  have hl8 : t.s.length ≤ 9223372036854775807 := hb.2.2.1
  have hm8 : t.l.length ≤ 140737488351232 := hb.2.2.2
  have hln := fun W => run_lenS (P := Try.prog) (t := 9) (ty := 3) (by kernel_rfl) t.s W
  have HR := hide hr
  clear hr hb
  unfold Tm.val Tm.row at *
  generalize mayT t = res at HM ⊢
  generalize mayE t = reE at HM HE
  generalize risT t.l = ris at HM HR
  generalize nameT t.s = nm at HN HE
  generalize t.n = n at *
  generalize t.A = A at *
  generalize t.c = c at *
  generalize t.l.length = m at *
  generalize t.s.length = ls at *
  generalize t.s = s at *
  generalize hk : t.k = k at *
  clear hk t
  by_cases h1 : k = 1
  · subst h1
    have HV : Hid (res = (nm && (decide (n = 0) && decide (m = 0)))) := hide (by rw [HM.out, HE.out]; simp)
    clear HM HE HR
    obtain ⟨z, hz⟩ : ∃ b, decide (n = 0) = b := ⟨_, rfl⟩
    have z2 : (n == 0) = z := by rw [← hz, Bool.eq_iff_iff]; simp
    have z3 : (n != 0) = !z := by rw [← z2]; rfl
    obtain ⟨L, hL⟩ : ∃ b, decide (m = 0) = b := ⟨_, rfl⟩
    have L2 : ((m : Int) == 0) = L := by rw [← hL, Bool.eq_iff_iff]; simp; try omega
    have L3 : decide (0 < (m : Int)) = !L := by rw [← hL, Bool.eq_iff_iff]; simp; omega
    have L4 : decide (0 < m) = !L := by rw [← hL, Bool.eq_iff_iff]; simp; omega
    have L5 : (m == 0) = L := by rw [← hL, Bool.eq_iff_iff]; simp
    rw [hz, hL] at HV
    cases nm <;> cases z <;> cases L
    all_goals simp only [Bool.not_true, Bool.not_false] at z3 L3 L4
    all_goals
      go_enter Try.func63, Try.ntmps63
      go_wp2_with (go_at_call 38; (with_reducible refine (HN.out _).mono ?_); rintro e w' ⟨rfl, rfl⟩)
      go_ret
      rw [HV.out]
      exact ⟨rfl, (Below.refl _ _).al _⟩
  by_cases h2 : k = 2
  · subst h2
    have HV : Hid (res = ((s == []) && decide (m = 0))) := hide (by rw [HM.out, HE.out]; simp)
    clear HM HE HR
    obtain ⟨e, he⟩ : ∃ b, (s == []) = b := ⟨_, rfl⟩
    obtain ⟨L, hL⟩ : ∃ b, decide (m = 0) = b := ⟨_, rfl⟩
    have L2 : ((m : Int) == 0) = L := by rw [← hL, Bool.eq_iff_iff]; simp; try omega
    have L3 : decide (0 < (m : Int)) = !L := by rw [← hL, Bool.eq_iff_iff]; simp; omega
    have L4 : decide (0 < m) = !L := by rw [← hL, Bool.eq_iff_iff]; simp; omega
    have L5 : (m == 0) = L := by rw [← hL, Bool.eq_iff_iff]; simp
    rw [he, hL] at HV
    cases e <;> cases L
    all_goals simp only [Bool.not_true, Bool.not_false] at L3 L4
    all_goals
      go_enter Try.func63, Try.ntmps63
      go_wp2_with fail
      go_ret
      rw [HV.out]
      exact ⟨rfl, (Below.refl _ _).al _⟩
  by_cases h3 : k = 3
  · subst h3
    have HV : Hid (res = (decide (ls ≤ 256) && (decide (n = 0) && decide (m = 0)))) := hide (by rw [HM.out, HE.out]; simp)
    clear HM HE HR
    obtain ⟨s6, hs6⟩ : ∃ b, decide (ls ≤ 256) = b := ⟨_, rfl⟩
    have s62 : decide ((ls : Int) ≤ 256) = s6 := by rw [← hs6]; exact decide_eq_decide.2 (by omega)
    obtain ⟨z, hz⟩ : ∃ b, decide (n = 0) = b := ⟨_, rfl⟩
    have z2 : (n == 0) = z := by rw [← hz, Bool.eq_iff_iff]; simp
    have z3 : (n != 0) = !z := by rw [← z2]; rfl
    obtain ⟨L, hL⟩ : ∃ b, decide (m = 0) = b := ⟨_, rfl⟩
    have L2 : ((m : Int) == 0) = L := by rw [← hL, Bool.eq_iff_iff]; simp; try omega
    have L3 : decide (0 < (m : Int)) = !L := by rw [← hL, Bool.eq_iff_iff]; simp; omega
    have L4 : decide (0 < m) = !L := by rw [← hL, Bool.eq_iff_iff]; simp; omega
    have L5 : (m == 0) = L := by rw [← hL, Bool.eq_iff_iff]; simp
    rw [hs6, hz, hL] at HV
    cases s6 <;> cases z <;> cases L
    all_goals simp only [Bool.not_true, Bool.not_false] at z3 L3 L4
    all_goals
      go_enter Try.func63, Try.ntmps63
      go_wp2_with fail
      go_ret
      rw [HV.out]
      exact ⟨rfl, (Below.refl _ _).al _⟩
  by_cases h5 : k = 5
  · subst h5
    have HV : Hid (res = (decide (ls ≤ 256) && (decide (n = 0) && decide (m = 0)))) := hide (by rw [HM.out, HE.out]; simp)
    clear HM HE HR
    obtain ⟨s6, hs6⟩ : ∃ b, decide (ls ≤ 256) = b := ⟨_, rfl⟩
    have s62 : decide ((ls : Int) ≤ 256) = s6 := by rw [← hs6]; exact decide_eq_decide.2 (by omega)
    obtain ⟨z, hz⟩ : ∃ b, decide (n = 0) = b := ⟨_, rfl⟩
    have z2 : (n == 0) = z := by rw [← hz, Bool.eq_iff_iff]; simp
    have z3 : (n != 0) = !z := by rw [← z2]; rfl
    obtain ⟨L, hL⟩ : ∃ b, decide (m = 0) = b := ⟨_, rfl⟩
    have L2 : ((m : Int) == 0) = L := by rw [← hL, Bool.eq_iff_iff]; simp; try omega
    have L3 : decide (0 < (m : Int)) = !L := by rw [← hL, Bool.eq_iff_iff]; simp; omega
    have L4 : decide (0 < m) = !L := by rw [← hL, Bool.eq_iff_iff]; simp; omega
    have L5 : (m == 0) = L := by rw [← hL, Bool.eq_iff_iff]; simp
    rw [hs6, hz, hL] at HV
    cases s6 <;> cases z <;> cases L
    all_goals simp only [Bool.not_true, Bool.not_false] at z3 L3 L4
    all_goals
      go_enter Try.func63, Try.ntmps63
      go_wp2_with fail
      go_ret
      rw [HV.out]
      exact ⟨rfl, (Below.refl _ _).al _⟩
  by_cases h4 : k = 4
  · subst h4
    have HV : Hid (res = ((s == []) && (decide (0 ≤ n) && (decide (n ≤ 253402300799) && decide (m = 0))))) := hide (by rw [HM.out, HE.out]; simp)
    clear HM HE HR
    obtain ⟨e, he⟩ : ∃ b, (s == []) = b := ⟨_, rfl⟩
    obtain ⟨n0, hn0⟩ : ∃ b, decide (0 ≤ n) = b := ⟨_, rfl⟩
    obtain ⟨nM, hnM⟩ : ∃ b, decide (n ≤ 253402300799) = b := ⟨_, rfl⟩
    obtain ⟨L, hL⟩ : ∃ b, decide (m = 0) = b := ⟨_, rfl⟩
    have L2 : ((m : Int) == 0) = L := by rw [← hL, Bool.eq_iff_iff]; simp; try omega
    have L3 : decide (0 < (m : Int)) = !L := by rw [← hL, Bool.eq_iff_iff]; simp; omega
    have L4 : decide (0 < m) = !L := by rw [← hL, Bool.eq_iff_iff]; simp; omega
    have L5 : (m == 0) = L := by rw [← hL, Bool.eq_iff_iff]; simp
    rw [he, hn0, hnM, hL] at HV
    cases e <;> cases n0 <;> cases nM <;> cases L
    all_goals simp only [Bool.not_true, Bool.not_false] at L3 L4
    all_goals
      go_enter Try.func63, Try.ntmps63
      go_wp2_with fail
      go_ret
      rw [HV.out]
      exact ⟨rfl, (Below.refl _ _).al _⟩
  by_cases h6 : k = 6
  · subst h6
    have HV : Hid (res = ((s == []) && ((decide (n = 0) || decide (n = 1)) && decide (m = 0)))) := hide (by rw [HM.out, HE.out]; simp)
    clear HM HE HR
    obtain ⟨e, he⟩ : ∃ b, (s == []) = b := ⟨_, rfl⟩
    obtain ⟨z, hz⟩ : ∃ b, decide (n = 0) = b := ⟨_, rfl⟩
    have z2 : (n == 0) = z := by rw [← hz, Bool.eq_iff_iff]; simp
    have z3 : (n != 0) = !z := by rw [← z2]; rfl
    obtain ⟨o, ho⟩ : ∃ b, decide (n = 1) = b := ⟨_, rfl⟩
    have o2 : (n == 1) = o := by rw [← ho, Bool.eq_iff_iff]; simp
    obtain ⟨L, hL⟩ : ∃ b, decide (m = 0) = b := ⟨_, rfl⟩
    have L2 : ((m : Int) == 0) = L := by rw [← hL, Bool.eq_iff_iff]; simp; try omega
    have L3 : decide (0 < (m : Int)) = !L := by rw [← hL, Bool.eq_iff_iff]; simp; omega
    have L4 : decide (0 < m) = !L := by rw [← hL, Bool.eq_iff_iff]; simp; omega
    have L5 : (m == 0) = L := by rw [← hL, Bool.eq_iff_iff]; simp
    rw [he, hz, ho, hL] at HV
    cases e <;> cases z <;> cases o <;> cases L
    all_goals simp only [Bool.not_true, Bool.not_false] at z3 L3 L4
    all_goals
      go_enter Try.func63, Try.ntmps63
      go_wp2_with fail
      go_ret
      rw [HV.out]
      exact ⟨rfl, (Below.refl _ _).al _⟩
  by_cases h7 : k = 7
  · subst h7
    have HV : Hid (res = (decide (n = 0) && ((s == []) && ris))) := hide (by rw [HM.out]; simp)
    have HR7 := hide (fun W hW => HR.out W hW rfl)
    clear HM HE HR
    obtain ⟨z, hz⟩ : ∃ b, decide (n = 0) = b := ⟨_, rfl⟩
    have z2 : (n == 0) = z := by rw [← hz, Bool.eq_iff_iff]; simp
    obtain ⟨e, he⟩ : ∃ b, (s == []) = b := ⟨_, rfl⟩
    rw [hz, he] at HV
    cases z <;> cases e
    case true.true =>
      go_enter Try.func63, Try.ntmps63
      go_wp2_with (go_at_call 75; (with_reducible refine (HR7.out _ ((Below.refl _ _).al _)).mono ?_); rintro e w' ⟨rfl, hb⟩; have HB := hide (((Below.refl _ _).al _).trans (hb.mono ((Below.refl _ _).al _).size)); clear hb)
      go_ret
      rw [HV.out]
      exact ⟨rfl, HB.out⟩
    all_goals
      go_enter Try.func63, Try.ntmps63
      go_wp2_with fail
      go_ret
      rw [HV.out]
      exact ⟨rfl, (Below.refl _ _).al _⟩
  · have HV : Hid (res = false) := hide (by rw [HM.out, HE.out]; simp [h1, h2, h3, h5, h4, h6, h7])
    have q1 : (k == 1) = false := by simp [h1]
    have q2 : (k == 2) = false := by simp [h2]
    have q3 : (k == 3) = false := by simp [h3]
    have q5 : (k == 5) = false := by simp [h5]
    have q4 : (k == 4) = false := by simp [h4]
    have q6 : (k == 6) = false := by simp [h6]
    have q7 : (k == 7) = false := by simp [h7]
    have q8 : (k != 7) = true := by simp [h7]
    obtain ⟨L, hL⟩ : ∃ b, decide (m = 0) = b := ⟨_, rfl⟩
    have L3 : decide (0 < (m : Int)) = !L := by rw [← hL, Bool.eq_iff_iff]; simp; omega
    have L4 : decide (0 < m) = !L := by rw [← hL, Bool.eq_iff_iff]; simp; omega
    clear HM HE HR h1 h2 h3 h5 h4 h6 h7
    cases L
    all_goals simp only [Bool.not_true, Bool.not_false] at L3 L4
    all_goals
      go_enter Try.func63, Try.ntmps63
      go_wp2_with fail
      go_ret
      rw [HV.out]
      exact ⟨rfl, (Below.refl _ _).al _⟩
set_option maxRecDepth 100000 in
set_option maxHeartbeats 800000 in
theorem mayR_step (t : Tm) (w : World) (hb : TmBd t)
    (hr : ∀ W, Below w.heap.size w W → t.k = 7 → Calls Try.prog 73 #[t.val] W fun e w' => e = .returned (.bool (decide (t.n = 0) && ((t.s == []) && risT t.l))) ∧ Below W.heap.size W w') :
    Calls Try.prog 57 #[t.val] w fun e w' => e = .returned (.bool (mayT t)) ∧ Below w.heap.size w w' := by
  have HN := hide (fun W => nameR_any t.s hb.2.2.1 W)
  have HM : Hid (mayT t = if t.k = 7 then decide (t.n = 0) && ((t.s == []) && risT t.l) else mayE t) := hide (by unfold mayT; rfl)
  have HE : Hid (mayE t = (if t.k = 1 then nameT t.s && (decide (t.n = 0) && decide (t.l.length = 0))
    else if t.k = 2 then (t.s == []) && decide (t.l.length = 0)
    else if t.k = 3 ∨ t.k = 5 then decide (t.s.length ≤ 256) && (decide (t.n = 0) && decide (t.l.length = 0))
    else if t.k = 4 then (t.s == []) && (decide (0 ≤ t.n) && (decide (t.n ≤ 253402300799) && decide (t.l.length = 0)))
    else if t.k = 6 then (t.s == []) && ((decide (t.n = 0) || decide (t.n = 1)) && decide (t.l.length = 0))
    else false)) := hide (by unfold mayE; rfl)
  have hl8 : t.s.length ≤ 9223372036854775807 := hb.2.2.1
  have hm8 : t.l.length ≤ 140737488351232 := hb.2.2.2
  have hln := fun W => run_lenS (P := Try.prog) (t := 9) (ty := 3) (by kernel_rfl) t.s W
  have HR := hide hr
  clear hr hb
  unfold Tm.val Tm.row at *
  generalize mayT t = res at HM ⊢
  generalize mayE t = reE at HM HE
  generalize risT t.l = ris at HM HR
  generalize nameT t.s = nm at HN HE
  generalize t.n = n at *
  generalize t.A = A at *
  generalize t.c = c at *
  generalize t.l.length = m at *
  generalize t.s.length = ls at *
  generalize t.s = s at *
  generalize hk : t.k = k at *
  clear hk t
  by_cases h1 : k = 1
  · subst h1
    have HV : Hid (res = (nm && (decide (n = 0) && decide (m = 0)))) := hide (by rw [HM.out, HE.out]; simp)
    clear HM HE HR
    obtain ⟨z, hz⟩ : ∃ b, decide (n = 0) = b := ⟨_, rfl⟩
    have z2 : (n == 0) = z := by rw [← hz, Bool.eq_iff_iff]; simp
    have z3 : (n != 0) = !z := by rw [← z2]; rfl
    obtain ⟨L, hL⟩ : ∃ b, decide (m = 0) = b := ⟨_, rfl⟩
    have L2 : ((m : Int) == 0) = L := by rw [← hL, Bool.eq_iff_iff]; simp; try omega
    have L3 : decide (0 < (m : Int)) = !L := by rw [← hL, Bool.eq_iff_iff]; simp; omega
    have L4 : decide (0 < m) = !L := by rw [← hL, Bool.eq_iff_iff]; simp; omega
    have L5 : (m == 0) = L := by rw [← hL, Bool.eq_iff_iff]; simp
    rw [hz, hL] at HV
    cases nm <;> cases z <;> cases L
    all_goals simp only [Bool.not_true, Bool.not_false] at z3 L3 L4
    all_goals
      go_enter Try.func57, Try.ntmps57
      go_wp2_with (go_at_call 35; (with_reducible refine (HN.out _).mono ?_); rintro e w' ⟨rfl, rfl⟩)
      go_ret
      rw [HV.out]
      exact ⟨rfl, (Below.refl _ _).al _⟩
  by_cases h2 : k = 2
  · subst h2
    have HV : Hid (res = ((s == []) && decide (m = 0))) := hide (by rw [HM.out, HE.out]; simp)
    clear HM HE HR
    obtain ⟨e, he⟩ : ∃ b, (s == []) = b := ⟨_, rfl⟩
    obtain ⟨L, hL⟩ : ∃ b, decide (m = 0) = b := ⟨_, rfl⟩
    have L2 : ((m : Int) == 0) = L := by rw [← hL, Bool.eq_iff_iff]; simp; try omega
    have L3 : decide (0 < (m : Int)) = !L := by rw [← hL, Bool.eq_iff_iff]; simp; omega
    have L4 : decide (0 < m) = !L := by rw [← hL, Bool.eq_iff_iff]; simp; omega
    have L5 : (m == 0) = L := by rw [← hL, Bool.eq_iff_iff]; simp
    rw [he, hL] at HV
    cases e <;> cases L
    all_goals simp only [Bool.not_true, Bool.not_false] at L3 L4
    all_goals
      go_enter Try.func57, Try.ntmps57
      go_wp2_with fail
      go_ret
      rw [HV.out]
      exact ⟨rfl, (Below.refl _ _).al _⟩
  by_cases h3 : k = 3
  · subst h3
    have HV : Hid (res = (decide (ls ≤ 256) && (decide (n = 0) && decide (m = 0)))) := hide (by rw [HM.out, HE.out]; simp)
    clear HM HE HR
    obtain ⟨s6, hs6⟩ : ∃ b, decide (ls ≤ 256) = b := ⟨_, rfl⟩
    have s62 : decide ((ls : Int) ≤ 256) = s6 := by rw [← hs6]; exact decide_eq_decide.2 (by omega)
    obtain ⟨z, hz⟩ : ∃ b, decide (n = 0) = b := ⟨_, rfl⟩
    have z2 : (n == 0) = z := by rw [← hz, Bool.eq_iff_iff]; simp
    have z3 : (n != 0) = !z := by rw [← z2]; rfl
    obtain ⟨L, hL⟩ : ∃ b, decide (m = 0) = b := ⟨_, rfl⟩
    have L2 : ((m : Int) == 0) = L := by rw [← hL, Bool.eq_iff_iff]; simp; try omega
    have L3 : decide (0 < (m : Int)) = !L := by rw [← hL, Bool.eq_iff_iff]; simp; omega
    have L4 : decide (0 < m) = !L := by rw [← hL, Bool.eq_iff_iff]; simp; omega
    have L5 : (m == 0) = L := by rw [← hL, Bool.eq_iff_iff]; simp
    rw [hs6, hz, hL] at HV
    cases s6 <;> cases z <;> cases L
    all_goals simp only [Bool.not_true, Bool.not_false] at z3 L3 L4
    all_goals
      go_enter Try.func57, Try.ntmps57
      go_wp2_with fail
      go_ret
      rw [HV.out]
      exact ⟨rfl, (Below.refl _ _).al _⟩
  by_cases h5 : k = 5
  · subst h5
    have HV : Hid (res = (decide (ls ≤ 256) && (decide (n = 0) && decide (m = 0)))) := hide (by rw [HM.out, HE.out]; simp)
    clear HM HE HR
    obtain ⟨s6, hs6⟩ : ∃ b, decide (ls ≤ 256) = b := ⟨_, rfl⟩
    have s62 : decide ((ls : Int) ≤ 256) = s6 := by rw [← hs6]; exact decide_eq_decide.2 (by omega)
    obtain ⟨z, hz⟩ : ∃ b, decide (n = 0) = b := ⟨_, rfl⟩
    have z2 : (n == 0) = z := by rw [← hz, Bool.eq_iff_iff]; simp
    have z3 : (n != 0) = !z := by rw [← z2]; rfl
    obtain ⟨L, hL⟩ : ∃ b, decide (m = 0) = b := ⟨_, rfl⟩
    have L2 : ((m : Int) == 0) = L := by rw [← hL, Bool.eq_iff_iff]; simp; try omega
    have L3 : decide (0 < (m : Int)) = !L := by rw [← hL, Bool.eq_iff_iff]; simp; omega
    have L4 : decide (0 < m) = !L := by rw [← hL, Bool.eq_iff_iff]; simp; omega
    have L5 : (m == 0) = L := by rw [← hL, Bool.eq_iff_iff]; simp
    rw [hs6, hz, hL] at HV
    cases s6 <;> cases z <;> cases L
    all_goals simp only [Bool.not_true, Bool.not_false] at z3 L3 L4
    all_goals
      go_enter Try.func57, Try.ntmps57
      go_wp2_with fail
      go_ret
      rw [HV.out]
      exact ⟨rfl, (Below.refl _ _).al _⟩
  by_cases h4 : k = 4
  · subst h4
    have HV : Hid (res = ((s == []) && (decide (0 ≤ n) && (decide (n ≤ 253402300799) && decide (m = 0))))) := hide (by rw [HM.out, HE.out]; simp)
    clear HM HE HR
    obtain ⟨e, he⟩ : ∃ b, (s == []) = b := ⟨_, rfl⟩
    obtain ⟨n0, hn0⟩ : ∃ b, decide (0 ≤ n) = b := ⟨_, rfl⟩
    obtain ⟨nM, hnM⟩ : ∃ b, decide (n ≤ 253402300799) = b := ⟨_, rfl⟩
    obtain ⟨L, hL⟩ : ∃ b, decide (m = 0) = b := ⟨_, rfl⟩
    have L2 : ((m : Int) == 0) = L := by rw [← hL, Bool.eq_iff_iff]; simp; try omega
    have L3 : decide (0 < (m : Int)) = !L := by rw [← hL, Bool.eq_iff_iff]; simp; omega
    have L4 : decide (0 < m) = !L := by rw [← hL, Bool.eq_iff_iff]; simp; omega
    have L5 : (m == 0) = L := by rw [← hL, Bool.eq_iff_iff]; simp
    rw [he, hn0, hnM, hL] at HV
    cases e <;> cases n0 <;> cases nM <;> cases L
    all_goals simp only [Bool.not_true, Bool.not_false] at L3 L4
    all_goals
      go_enter Try.func57, Try.ntmps57
      go_wp2_with fail
      go_ret
      rw [HV.out]
      exact ⟨rfl, (Below.refl _ _).al _⟩
  by_cases h6 : k = 6
  · subst h6
    have HV : Hid (res = ((s == []) && ((decide (n = 0) || decide (n = 1)) && decide (m = 0)))) := hide (by rw [HM.out, HE.out]; simp)
    clear HM HE HR
    obtain ⟨e, he⟩ : ∃ b, (s == []) = b := ⟨_, rfl⟩
    obtain ⟨z, hz⟩ : ∃ b, decide (n = 0) = b := ⟨_, rfl⟩
    have z2 : (n == 0) = z := by rw [← hz, Bool.eq_iff_iff]; simp
    have z3 : (n != 0) = !z := by rw [← z2]; rfl
    obtain ⟨o, ho⟩ : ∃ b, decide (n = 1) = b := ⟨_, rfl⟩
    have o2 : (n == 1) = o := by rw [← ho, Bool.eq_iff_iff]; simp
    obtain ⟨L, hL⟩ : ∃ b, decide (m = 0) = b := ⟨_, rfl⟩
    have L2 : ((m : Int) == 0) = L := by rw [← hL, Bool.eq_iff_iff]; simp; try omega
    have L3 : decide (0 < (m : Int)) = !L := by rw [← hL, Bool.eq_iff_iff]; simp; omega
    have L4 : decide (0 < m) = !L := by rw [← hL, Bool.eq_iff_iff]; simp; omega
    have L5 : (m == 0) = L := by rw [← hL, Bool.eq_iff_iff]; simp
    rw [he, hz, ho, hL] at HV
    cases e <;> cases z <;> cases o <;> cases L
    all_goals simp only [Bool.not_true, Bool.not_false] at z3 L3 L4
    all_goals
      go_enter Try.func57, Try.ntmps57
      go_wp2_with fail
      go_ret
      rw [HV.out]
      exact ⟨rfl, (Below.refl _ _).al _⟩
  by_cases h7 : k = 7
  · subst h7
    have HV : Hid (res = (decide (n = 0) && ((s == []) && ris))) := hide (by rw [HM.out]; simp)
    have HR7 := hide (fun W hW => HR.out W hW rfl)
    clear HM HE HR
    obtain ⟨v, hv⟩ : ∃ b, (decide (n = 0) && ((s == []) && ris)) = b := ⟨_, rfl⟩
    rw [hv] at HV HR7
    clear hv
    go_enter Try.func57, Try.ntmps57
    go_wp2_with (go_at_call 73; (with_reducible refine (HR7.out _ ((Below.refl _ _).al _)).mono ?_); rintro e w' ⟨rfl, hb⟩; have HB := hide (((Below.refl _ _).al _).trans (hb.mono ((Below.refl _ _).al _).size)); clear hb)
    go_ret
    rw [HV.out]
    exact ⟨rfl, HB.out⟩
  · have HV : Hid (res = false) := hide (by rw [HM.out, HE.out]; simp [h1, h2, h3, h5, h4, h6, h7])
    have q1 : (k == 1) = false := by simp [h1]
    have q2 : (k == 2) = false := by simp [h2]
    have q3 : (k == 3) = false := by simp [h3]
    have q5 : (k == 5) = false := by simp [h5]
    have q4 : (k == 4) = false := by simp [h4]
    have q6 : (k == 6) = false := by simp [h6]
    have q7 : (k == 7) = false := by simp [h7]
    have q8 : (k != 7) = true := by simp [h7]
    clear HM HE HR h1 h2 h3 h5 h4 h6 h7
    go_enter Try.func57, Try.ntmps57
    go_wp2_with fail
    go_ret
    rw [HV.out]
    exact ⟨rfl, (Below.refl _ _).al _⟩
set_option maxRecDepth 100000 in
set_option maxHeartbeats 800000 in
theorem fixed_step (t : Tm) (w : World) (hm : ∀ W, Below w.heap.size w W → Calls Try.prog 63 #[t.val] W fun e w' => e = .returned (.bool (mayT t)) ∧ Below W.heap.size W w') :
    Calls Try.prog 41 #[t.val] w fun e w' => e = .returned (.bool (fixT t)) ∧ Below w.heap.size w w' := by
  have HV : Hid (fixT t = (decide (t.k ≠ 1) && mayT t)) := hide (by unfold fixT; rfl)
  have HM := hide hm
  clear hm
  unfold Tm.val Tm.row at *
  generalize fixT t = res at HV ⊢
  generalize mayT t = r at HV HM
  generalize t.n = n at *
  generalize t.A = A at *
  generalize t.c = c at *
  generalize t.l.length = m at *
  generalize t.s = s at *
  generalize hk : t.k = k at *
  clear hk t
  obtain ⟨b, hb⟩ : ∃ b, decide (k ≠ 1) = b := ⟨_, rfl⟩
  have b2 : (k != 1) = b := by rw [← hb, Bool.eq_iff_iff]; simp
  rw [hb] at HV
  cases b <;> cases r
  all_goals
    go_enter Try.func41, Try.ntmps41
    first
      | (go_wp2_with (go_at_call 63; (with_reducible refine (HM.out _ ((Below.refl _ _).al _)).mono ?_); rintro e w' ⟨rfl, hb⟩; have HB := hide (((Below.refl _ _).al _).trans (hb.mono ((Below.refl _ _).al _).size)); have ck : w'.cell? ⟨w.heap.size, 0, none⟩ = some (.int .i64 k) := (((St.init w NoB).alloc _ _).call hb).cell 0 rfl 0; clear hb)
         go_ret
         rw [HV.out]
         exact ⟨rfl, HB.out⟩)
      | (go_wp2_with fail
         go_ret
         rw [HV.out]
         exact ⟨rfl, (Below.refl _ _).al _⟩)
set_option maxRecDepth 100000 in
set_option maxHeartbeats 800000 in
theorem fixedR_step (t : Tm) (w : World) (hm : ∀ W, Below w.heap.size w W → Calls Try.prog 57 #[t.val] W fun e w' => e = .returned (.bool (mayT t)) ∧ Below W.heap.size W w') :
    Calls Try.prog 34 #[t.val] w fun e w' => e = .returned (.bool (fixT t)) ∧ Below w.heap.size w w' := by
  have HV : Hid (fixT t = (decide (t.k ≠ 1) && mayT t)) := hide (by unfold fixT; rfl)
  have HM := hide hm
  clear hm
  unfold Tm.val Tm.row at *
  generalize fixT t = res at HV ⊢
  generalize mayT t = r at HV HM
  generalize t.n = n at *
  generalize t.A = A at *
  generalize t.c = c at *
  generalize t.l.length = m at *
  generalize t.s = s at *
  generalize hk : t.k = k at *
  clear hk t
  obtain ⟨b, hb⟩ : ∃ b, decide (k ≠ 1) = b := ⟨_, rfl⟩
  have b2 : (k != 1) = b := by rw [← hb, Bool.eq_iff_iff]; simp
  rw [hb] at HV
  cases b <;> cases r
  all_goals
    go_enter Try.func34, Try.ntmps34
    first
      | (go_wp2_with (go_at_call 57; (with_reducible refine (HM.out _ ((Below.refl _ _).al _)).mono ?_); rintro e w' ⟨rfl, hb⟩; have HB := hide (((Below.refl _ _).al _).trans (hb.mono ((Below.refl _ _).al _).size)); have ck : w'.cell? ⟨w.heap.size, 0, none⟩ = some (.int .i64 k) := (((St.init w NoB).alloc _ _).call hb).cell 0 rfl 0; clear hb)
         go_ret
         rw [HV.out]
         exact ⟨rfl, HB.out⟩)
      | (go_wp2_with fail
         go_ret
         rw [HV.out]
         exact ⟨rfl, (Below.refl _ _).al _⟩)
end Go.Proofs.Ythpioncehigoaaa
