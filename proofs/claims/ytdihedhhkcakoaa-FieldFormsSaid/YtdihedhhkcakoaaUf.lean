/-
  The statement 'FieldForms': its arguments opened; the row.
-/
import Derived.Test.YtdihedhhkcakoaaVg
import Derived.Test.YtdihedhhkcakoaaOq
namespace Go.Proofs.Ytdihedhhkcakoaa
open Go.ChangeShapes Go.WideShapes Go.ChangeAt Go.RowKit

set_option maxRecDepth 100000 in
theorem fieldForms_lifted (os : Os) (started : os.Started) (H : Type) (enc : TypeId × Value → H) :
    ReturnsInHanded {} Try.checked os 8 .any (Rows.fieldFormsSpec.pre6 enc Try.prog Try.f8 Rows.fieldFormsRow.domain false) (Rows.fieldFormsSpec.post enc Try.prog Try.f8 false true false false) := by
  refine lift_law (C := Try.checked) own started (by kernel_rfl) Try.func8 rfl rfl (tb := 4) (by kernel_rfl) Try.underlying4 laidOut (by kernel_rfl) ?_
    (ChangeSpec.witness6 (enc := enc) (C := Try.checked) false ⟨#[], #[.slice none 0 0, .slice none 0 0, .int .u32 0], []⟩ 8 (by kernel_rfl) (by kernel_rfl) (by kernel_rfl) (by kernel_rfl)) ?_
  · intro ds hds
    rw [Try.params8] at hds
    match ds, hds with
    | [d0, d1, d2], _ => exact ⟨rfl, rfl, rfl⟩
  · intro W args ds p hT
    obtain ⟨hA, ⟨base, hok⟩, hsz⟩ := hT
    rw [Try.params8] at hA hok hsz
    obtain ⟨v0, v1, v2, d0, d1, d2, p0, p1, p2, rfl, rfl, rfl, h0, h1, h2⟩ := trodAll_three hA
    obtain ⟨a0, len0, cap0, rfl⟩ := okWide_slice Try.underlying22 (hok 0 22 v0 rfl rfl)
    obtain ⟨fuel0, hf0⟩ := h0
    obtain ⟨a1, len1, cap1, rfl⟩ := okWide_slice Try.underlying22 (hok 1 22 v1 rfl rfl)
    obtain ⟨fuel1, hf1⟩ := h1
    obtain ⟨z2, rfl, rfl, rfl, w2⟩ := open_int Try.underlying32 (hok 2 32 v2 rfl rfl) h2
    obtain ⟨n2, rfl, hn2⟩ := u32_of w2
    obtain ⟨l0, rfl, r0, s0⟩ := open_bytes Try.underlying22 Try.underlying5 cellsU8 bytesU8 (show DataW.trod enc Try.prog W 0 (fun _ => true) true fuel0 22 [.slice a0 len0 cap0] = some (d0, p0) from hf0)
    replace s0 := s0 (fun n hn => by
      have := List.all_eq_true.1 hsz n (DataW.weights_mem_each (j := 0) rfl rfl n hn)
      simpa using this)
    obtain ⟨l1, rfl, r1, s1⟩ := open_bytes Try.underlying22 Try.underlying5 cellsU8 bytesU8 (show DataW.trod enc Try.prog W 0 (fun _ => true) true fuel1 22 [.slice a1 len1 cap1] = some (d1, p1) from hf1)
    replace s1 := s1 (fun n hn => by
      have := List.all_eq_true.1 hsz n (DataW.weights_mem_each (j := 1) rfl rfl n hn)
      simpa using this)
    exact fieldForms_walk a0 a1 cap0 cap1 l0 l1 n2 W r0 r1 hn2

theorem fieldForms_over : Rows.fieldFormsRow.holds Try.pinned (OpenSpec.ofChange Rows.fieldFormsSpec) :=
  OpenClaim.holds_of_wide 8 Try.f8 rfl rfl rfl rfl rfl rfl rfl ⟨rfl, rfl, rfl, rfl, rfl⟩ rfl rfl rfl rfl rfl (by kernel_rfl) Try.func8 (by kernel_rfl)
    (of_decide_eq_true (by kernel_rfl)) (by unfold Func.isWrapper; first | (rw [if_pos (by decide +kernel)]; kernel_rfl) | (rw [if_neg (by decide +kernel)]; exact ⟨rfl, rfl⟩))
    (fun os started H enc _ => fieldForms_lifted os started H enc)

/-- The statement. -/
theorem fieldForms_proved : Rows.FieldFormsSaid := fieldForms_over
#print axioms fieldForms_proved
end Go.Proofs.Ytdihedhhkcakoaa
