/-
  The statement 'ShaLengths': its arguments opened; the row.
-/
import Derived.Test.YtabdbddmmbccjaaHz
import Derived.Test.YtabdbddmmbccjaaOq
namespace Go.Proofs.Ytabdbddmmbccjaa
open Go.ChangeShapes Go.WideShapes Go.ChangeAt Go.RowKit

set_option maxRecDepth 100000 in
theorem shaLengths_lifted (os : Os) (started : os.Started) (H : Type) (enc : TypeId × Value → H) :
    ReturnsInHanded {} Try.checked os 6 .any (Rows.shaLengthsSpec.pre6 enc Try.prog Try.f6 Rows.shaLengthsRow.domain false) (Rows.shaLengthsSpec.post enc Try.prog Try.f6 false true false false) := by
  refine lift_law (C := Try.checked) own started (by kernel_rfl) Try.func6 rfl rfl (tb := 4) (by kernel_rfl) Try.underlying4 laidOut (by kernel_rfl) ?_
    (ChangeSpec.witness6 (enc := enc) (C := Try.checked) false ⟨#[], #[.int .i64 0, .int .u8 0], []⟩ 8 (by kernel_rfl) (by kernel_rfl) (by kernel_rfl) (by kernel_rfl)) ?_
  · intro ds hds
    rw [Try.params6] at hds
    match ds, hds with
    | [d0, d1], _ => exact ⟨rfl, rfl, rfl⟩
  · intro W args ds p hT
    obtain ⟨hA, ⟨base, hok⟩, hsz⟩ := hT
    rw [Try.params6] at hA hok hsz
    obtain ⟨v0, v1, d0, d1, p0, p1, rfl, rfl, rfl, h0, h1⟩ := trodAll_two hA
    obtain ⟨n0, rfl, rfl, rfl, w0⟩ := open_int Try.underlying3 (hok 0 3 v0 rfl rfl) h0
    obtain ⟨z1, rfl, rfl, rfl, w1⟩ := open_int Try.underlying5 (hok 1 5 v1 rfl rfl) h1
    obtain ⟨n1, rfl, hn1⟩ := u8_of w1
    exact shaLengths_walk n0 n1 W (i64_of w0) hn1

theorem shaLengths_over : Rows.shaLengthsRow.holds Try.pinned (OpenSpec.ofChange Rows.shaLengthsSpec) :=
  OpenClaim.holds_of_wide 6 Try.f6 rfl rfl rfl rfl rfl rfl rfl ⟨rfl, rfl, rfl, rfl, rfl⟩ rfl rfl rfl rfl rfl (by kernel_rfl) Try.func6 (by kernel_rfl)
    (of_decide_eq_true (by kernel_rfl)) (by unfold Func.isWrapper; first | (rw [if_pos (by decide +kernel)]; kernel_rfl) | (rw [if_neg (by decide +kernel)]; exact ⟨rfl, rfl⟩))
    (fun os started H enc _ => shaLengths_lifted os started H enc)

/-- The statement. -/
theorem shaLengths_proved : Rows.ShaLengthsSaid := shaLengths_over
#print axioms shaLengths_proved
end Go.Proofs.Ytabdbddmmbccjaa
