/-
  The statement 'TermKinds': its arguments opened; the row.
-/
import Derived.Test.YtjamoifenkdneaaOt
import Derived.Test.YtjamoifenkdneaaWk
namespace Go.Proofs.Ytjamoifenkdneaa
open Go.ChangeShapes Go.WideShapes Go.ChangeAt Go.RowKit

set_option maxRecDepth 100000 in
theorem termKinds_lifted (os : Os) (started : os.Started) (H : Type) (enc : TypeId × Value → H) :
    ReturnsInHanded {} Try.checked os 5 .any (Rows.termKindsSpec.pre6 enc Try.prog Try.f5 Rows.termKindsRow.domain false) (Rows.termKindsSpec.post enc Try.prog Try.f5 false true false false) := by
  refine lift_law (C := Try.checked) own started (by kernel_rfl) Try.func5 rfl rfl (tb := 4) (by kernel_rfl) Try.underlying4 laidOut (by kernel_rfl) ?_
    (ChangeSpec.witness6 (enc := enc) (C := Try.checked) false ⟨#[], #[.agg #[.int .i64 0, .int .i64 0, .string ⟨#[]⟩, .slice none 0 0], .int .i64 0], []⟩ 8 (by kernel_rfl) (by kernel_rfl) (by kernel_rfl) (by kernel_rfl)) ?_
  · intro ds hds
    rw [Try.params5] at hds
    match ds, hds with
    | [d0, d1], _ => exact ⟨rfl, rfl, rfl⟩
  · intro W args ds p hT
    obtain ⟨hA, ⟨base, hok⟩, hsz⟩ := hT
    rw [Try.params5] at hA hok hsz
    obtain ⟨v0, v1, d0, d1, p0, p1, rfl, rfl, rfl, h0, h1⟩ := trodAll_two hA
    obtain ⟨t0, rfl, ht0⟩ := open_term (hok 0 24 v0 rfl rfl) h0 (fun n hn => by
      have := List.all_eq_true.1 hsz n (DataW.weights_mem_each (j := 0) rfl rfl n hn)
      simpa using this)
    obtain ⟨n1, rfl, rfl, rfl, w1⟩ := open_int Try.underlying2 (hok 1 2 v1 rfl rfl) h1
    exact termKinds_walk t0 n1 (i64_of w1) W ht0

theorem termKinds_over : Rows.termKindsRow.holds Try.pinned (OpenSpec.ofChange Rows.termKindsSpec) :=
  OpenClaim.holds_of_wide 5 Try.f5 rfl rfl rfl rfl rfl rfl rfl ⟨rfl, rfl, rfl, rfl, rfl⟩ rfl rfl rfl rfl rfl (by kernel_rfl) Try.func5 (by kernel_rfl)
    (of_decide_eq_true (by kernel_rfl)) (by unfold Func.isWrapper; first | (rw [if_pos (by decide +kernel)]; kernel_rfl) | (rw [if_neg (by decide +kernel)]; exact ⟨rfl, rfl⟩))
    (fun os started H enc _ => termKinds_lifted os started H enc)

/-- The statement. -/
theorem termKinds_proved : Rows.TermKindsSaid := termKinds_over
#print axioms termKinds_proved
end Go.Proofs.Ytjamoifenkdneaa
