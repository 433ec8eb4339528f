/-
  The statement 'FieldSmall': its arguments opened; the row.
-/
import Derived.Test.YtdihedhhkcakoaaVm
import Derived.Test.YtdihedhhkcakoaaOq
namespace Go.Proofs.Ytdihedhhkcakoaa
open Go.ChangeShapes Go.WideShapes Go.ChangeAt Go.RowKit

set_option maxRecDepth 100000 in
theorem fieldSmall_lifted (os : Os) (started : os.Started) (H : Type) (enc : TypeId × Value → H) :
    ReturnsInHanded {} Try.checked os 4 .any (Rows.fieldSmallSpec.pre6 enc Try.prog Try.f4 Rows.fieldSmallRow.domain false) (Rows.fieldSmallSpec.post enc Try.prog Try.f4 false true false false) := by
  refine lift_law (C := Try.checked) own started (by kernel_rfl) Try.func4 rfl rfl (tb := 4) (by kernel_rfl) Try.underlying4 laidOut (by kernel_rfl) ?_
    (ChangeSpec.witness6 (enc := enc) (C := Try.checked) false ⟨#[], #[.int .u32 0, .int .u32 0], []⟩ 8 (by kernel_rfl) (by kernel_rfl) (by kernel_rfl) (by kernel_rfl)) ?_
  · intro ds hds
    rw [Try.params4] at hds
    match ds, hds with
    | [d0, d1], _ => exact ⟨rfl, rfl, rfl⟩
  · intro W args ds p hT
    obtain ⟨hA, ⟨base, hok⟩, hsz⟩ := hT
    rw [Try.params4] at hA hok hsz
    obtain ⟨v0, v1, d0, d1, p0, p1, rfl, rfl, rfl, h0, h1⟩ := trodAll_two hA
    obtain ⟨z0, rfl, rfl, rfl, w0⟩ := open_int Try.underlying32 (hok 0 32 v0 rfl rfl) h0
    obtain ⟨n0, rfl, hn0⟩ := u32_of w0
    obtain ⟨z1, rfl, rfl, rfl, w1⟩ := open_int Try.underlying32 (hok 1 32 v1 rfl rfl) h1
    obtain ⟨n1, rfl, hn1⟩ := u32_of w1
    exact fieldSmall_walk n0 n1 W hn0 hn1

theorem fieldSmall_over : Rows.fieldSmallRow.holds Try.pinned (OpenSpec.ofChange Rows.fieldSmallSpec) :=
  OpenClaim.holds_of_wide 4 Try.f4 rfl rfl rfl rfl rfl rfl rfl ⟨rfl, rfl, rfl, rfl, rfl⟩ rfl rfl rfl rfl rfl (by kernel_rfl) Try.func4 (by kernel_rfl)
    (of_decide_eq_true (by kernel_rfl)) (by unfold Func.isWrapper; first | (rw [if_pos (by decide +kernel)]; kernel_rfl) | (rw [if_neg (by decide +kernel)]; exact ⟨rfl, rfl⟩))
    (fun os started H enc _ => fieldSmall_lifted os started H enc)

/-- The statement. -/
theorem fieldSmall_proved : Rows.FieldSmallSaid := fieldSmall_over
#print axioms fieldSmall_proved
end Go.Proofs.Ytdihedhhkcakoaa
