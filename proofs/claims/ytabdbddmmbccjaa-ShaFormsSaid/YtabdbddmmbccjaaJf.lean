/-
  The statement 'ShaForms': its arguments opened; the row.
-/
import Derived.Test.YtabdbddmmbccjaaHy
import Derived.Test.YtabdbddmmbccjaaOq
namespace Go.Proofs.Ytabdbddmmbccjaa
open Go.ChangeShapes Go.WideShapes Go.ChangeAt Go.RowKit

set_option maxRecDepth 100000 in
theorem shaForms_lifted (os : Os) (started : os.Started) (H : Type) (enc : TypeId × Value → H) :
    ReturnsInHanded {} Try.checked os 3 .any (Rows.shaFormsSpec.pre6 enc Try.prog Try.f3 Rows.shaFormsRow.domain false) (Rows.shaFormsSpec.post enc Try.prog Try.f3 false true false false) := by
  refine lift_law (C := Try.checked) own started (by kernel_rfl) Try.func3 rfl rfl (tb := 4) (by kernel_rfl) Try.underlying4 laidOut (by kernel_rfl) ?_
    (ChangeSpec.witness6 (enc := enc) (C := Try.checked) false ⟨#[], #[.slice none 0 0], []⟩ 8 (by kernel_rfl) (by kernel_rfl) (by kernel_rfl) (by kernel_rfl)) ?_
  · intro ds hds
    rw [Try.params3] at hds
    match ds, hds with
    | [d0], _ => exact ⟨rfl, rfl, rfl⟩
  · intro W args ds p hT
    obtain ⟨hA, ⟨base, hok⟩, hsz⟩ := hT
    rw [Try.params3] at hA hok hsz
    obtain ⟨v0, d0, rfl, rfl, h0⟩ := trodAll_one hA
    obtain ⟨a0, len0, cap0, rfl⟩ := okWide_slice Try.underlying22 (hok 0 22 v0 rfl rfl)
    obtain ⟨fuel0, hf0⟩ := h0
    obtain ⟨l0, rfl, r0, s0⟩ := open_bytes Try.underlying22 Try.underlying5 cellsU8 bytesU8 (show DataW.trod enc Try.prog W 0 (fun _ => true) true fuel0 22 [.slice a0 len0 cap0] = some (d0, p) from hf0)
    replace s0 := s0 (fun n hn => by
      have := List.all_eq_true.1 hsz n (DataW.weights_mem_each (j := 0) rfl rfl n hn)
      simpa using this)
    exact shaForms_walk a0 cap0 l0 W r0 s0

theorem shaForms_over : Rows.shaFormsRow.holds Try.pinned (OpenSpec.ofChange Rows.shaFormsSpec) :=
  OpenClaim.holds_of_wide 3 Try.f3 rfl rfl rfl rfl rfl rfl rfl ⟨rfl, rfl, rfl, rfl, rfl⟩ rfl rfl rfl rfl rfl (by kernel_rfl) Try.func3 (by kernel_rfl)
    (of_decide_eq_true (by kernel_rfl)) (by unfold Func.isWrapper; first | (rw [if_pos (by decide +kernel)]; kernel_rfl) | (rw [if_neg (by decide +kernel)]; exact ⟨rfl, rfl⟩))
    (fun os started H enc _ => shaForms_lifted os started H enc)

/-- The statement. -/
theorem shaForms_proved : Rows.ShaFormsSaid := shaForms_over
#print axioms shaForms_proved
end Go.Proofs.Ytabdbddmmbccjaa
