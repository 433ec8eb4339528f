/-
  The statement 'ScalarSmall': its arguments opened; the row.
-/
import Derived.Test.YtgofcefggdlalaaSn
import Derived.Test.YtgofcefggdlalaaOq
namespace Go.Proofs.Ytgofcefggdlalaa
open Go.ChangeShapes Go.WideShapes Go.ChangeAt Go.RowKit

set_option maxRecDepth 100000 in
theorem scalarSmall_lifted (os : Os) (started : os.Started) (H : Type) (enc : TypeId × Value → H) :
    ReturnsInHanded {} Try.checked os 6 .any (Rows.scalarSmallSpec.pre6 enc Try.prog Try.f6 Rows.scalarSmallRow.domain false) (Rows.scalarSmallSpec.post enc Try.prog Try.f6 false true false false) := by
  refine lift_law (C := Try.checked) own started (by kernel_rfl) Try.func6 rfl rfl (tb := 4) (by kernel_rfl) Try.underlying4 laidOut (by kernel_rfl) ?_
    (ChangeSpec.witness6 (enc := enc) (C := Try.checked) false ⟨#[], #[.int .u32 0, .int .u32 0, .int .u32 0], []⟩ 8 (by kernel_rfl) (by kernel_rfl) (by kernel_rfl) (by kernel_rfl)) ?_
  · intro ds hds
    rw [Try.params6] at hds
    match ds, hds with
    | [d0, d1, d2], _ => exact ⟨rfl, rfl, rfl⟩
  · intro W args ds p hT
    obtain ⟨hA, ⟨base, hok⟩, hsz⟩ := hT
    rw [Try.params6] at hA hok hsz
    obtain ⟨v0, v1, v2, d0, d1, d2, p0, p1, p2, rfl, rfl, rfl, h0, h1, h2⟩ := trodAll_three hA
    obtain ⟨z0, rfl, rfl, rfl, w0⟩ := open_int Try.underlying30 (hok 0 30 v0 rfl rfl) h0
    obtain ⟨n0, rfl, hn0⟩ := u32_of w0
    obtain ⟨z1, rfl, rfl, rfl, w1⟩ := open_int Try.underlying30 (hok 1 30 v1 rfl rfl) h1
    obtain ⟨n1, rfl, hn1⟩ := u32_of w1
    obtain ⟨z2, rfl, rfl, rfl, w2⟩ := open_int Try.underlying30 (hok 2 30 v2 rfl rfl) h2
    obtain ⟨n2, rfl, hn2⟩ := u32_of w2
    exact small_walk n0 n1 n2 W hn0 hn1 hn2

theorem scalarSmall_over : Rows.scalarSmallRow.holds Try.pinned (OpenSpec.ofChange Rows.scalarSmallSpec) :=
  OpenClaim.holds_of_wide 6 Try.f6 rfl rfl rfl rfl rfl rfl rfl ⟨rfl, rfl, rfl, rfl, rfl⟩ rfl rfl rfl rfl rfl (by kernel_rfl) Try.func6 (by kernel_rfl)
    (of_decide_eq_true (by kernel_rfl)) (by unfold Func.isWrapper; first | (rw [if_pos (by decide +kernel)]; kernel_rfl) | (rw [if_neg (by decide +kernel)]; exact ⟨rfl, rfl⟩))
    (fun os started H enc _ => scalarSmall_lifted os started H enc)

/-- The statement. -/
theorem scalarSmall_proved : Rows.ScalarSmallSaid := scalarSmall_over
#print axioms scalarSmall_proved
end Go.Proofs.Ytgofcefggdlalaa
