/-
  The statement 'TermTurned': its arguments opened; the row.
-/
import Derived.Test.YtjamoifenkdneaaOt
import Derived.Test.YtjamoifenkdneaaWg
namespace Go.Proofs.Ytjamoifenkdneaa
open Go.ChangeShapes Go.WideShapes Go.ChangeAt Go.RowKit

set_option maxRecDepth 100000 in
theorem termTurned_lifted (os : Os) (started : os.Started) (H : Type) (enc : TypeId × Value → H) :
    ReturnsInHanded {} Try.checked os 8 .any (Rows.termTurnedSpec.pre6 enc Try.prog Try.f8 Rows.termTurnedRow.domain false) (Rows.termTurnedSpec.post enc Try.prog Try.f8 false true false false) := by
  refine lift_law (C := Try.checked) own started (by kernel_rfl) Try.func8 rfl rfl (tb := 4) (by kernel_rfl) Try.underlying4 laidOut (by kernel_rfl) ?_
    (ChangeSpec.witness6 (enc := enc) (C := Try.checked) false ⟨#[], #[.slice none 0 0, .int .i64 0], []⟩ 8 (by kernel_rfl) (by kernel_rfl) (by kernel_rfl) (by kernel_rfl)) ?_
  · intro ds hds
    rw [Try.params8] at hds
    match ds, hds with
    | [d0, d1], _ => exact ⟨rfl, rfl, rfl⟩
  · intro W args ds p hT
    obtain ⟨hA, ⟨base, hok⟩, hsz⟩ := hT
    rw [Try.params8] at hA hok hsz
    obtain ⟨v0, v1, d0, d1, p0, p1, rfl, rfl, rfl, h0, h1⟩ := trodAll_two hA
    obtain ⟨a0, len0, cap0, rfl⟩ := okWide_slice Try.underlying22 (hok 0 22 v0 rfl rfl)
    obtain ⟨fuel0, hf0⟩ := h0
    obtain ⟨n1, rfl, rfl, rfl, w1⟩ := open_int Try.underlying3 (hok 1 3 v1 rfl rfl) h1
    obtain ⟨l0, rfl, r0, m0⟩ := open_terms (show DataW.trod enc Try.prog W 0 (fun _ => true) true fuel0 22 [.slice a0 len0 cap0] = some (d0, p0) from hf0) (fun n hn => by
      have := List.all_eq_true.1 hsz n (DataW.weights_mem_each (j := 0) rfl rfl n hn)
      simpa using this)
    exact termTurned_walk l0 n1 _ W r0 m0

theorem termTurned_over : Rows.termTurnedRow.holds Try.pinned (OpenSpec.ofChange Rows.termTurnedSpec) :=
  OpenClaim.holds_of_wide 8 Try.f8 rfl rfl rfl rfl rfl rfl rfl ⟨rfl, rfl, rfl, rfl, rfl⟩ rfl rfl rfl rfl rfl (by kernel_rfl) Try.func8 (by kernel_rfl)
    (of_decide_eq_true (by kernel_rfl)) (by unfold Func.isWrapper; first | (rw [if_pos (by decide +kernel)]; kernel_rfl) | (rw [if_neg (by decide +kernel)]; exact ⟨rfl, rfl⟩))
    (fun os started H enc _ => termTurned_lifted os started H enc)

/-- The statement. -/
theorem termTurned_proved : Rows.TermTurnedSaid := termTurned_over
#print axioms termTurned_proved
end Go.Proofs.Ytjamoifenkdneaa
