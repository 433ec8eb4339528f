/-
  The statement 'ShaNil': its arguments opened; the row.
-/
import Derived.Test.YtabdbddmmbccjaaHh
import Derived.Test.YtabdbddmmbccjaaOq
namespace Go.Proofs.Ytabdbddmmbccjaa
open Go.ChangeShapes Go.WideShapes Go.ChangeAt Go.RowKit

set_option maxRecDepth 100000 in
theorem shaNil_lifted (os : Os) (started : os.Started) (H : Type) (enc : TypeId × Value → H) :
    ReturnsInHanded {} Try.checked os 5 .any (Rows.shaNilSpec.pre6 enc Try.prog Try.f5 Rows.shaNilRow.domain false) (Rows.shaNilSpec.post enc Try.prog Try.f5 false true false false) := by
  refine lift_law (C := Try.checked) own started (by kernel_rfl) Try.func5 rfl rfl (tb := 4) (by kernel_rfl) Try.underlying4 laidOut (by kernel_rfl) ?_
    (ChangeSpec.witness6 (enc := enc) (C := Try.checked) false ⟨#[], #[.slice none 0 0], []⟩ 8 (by kernel_rfl) (by kernel_rfl) (by kernel_rfl) (by kernel_rfl)) ?_
  · intro ds hds
    rw [Try.params5] at hds
    match ds, hds with
    | [d0], _ => exact ⟨rfl, rfl, rfl⟩
  · intro W args ds p hT
    obtain ⟨hA, ⟨base, hok⟩, hsz⟩ := hT
    rw [Try.params5] at hA hok hsz
    obtain ⟨v0, d0, rfl, rfl, h0⟩ := trodAll_one hA
    obtain ⟨a0, len0, cap0, rfl⟩ := okWide_slice Try.underlying22 (hok 0 22 v0 rfl rfl)
    obtain ⟨fuel0, hf0⟩ := h0
    obtain ⟨l0, rfl, r0, s0⟩ := open_bytes Try.underlying22 Try.underlying5 cellsU8 bytesU8 (show DataW.trod enc Try.prog W 0 (fun _ => true) true fuel0 22 [.slice a0 len0 cap0] = some (d0, p) from hf0)
    replace s0 := s0 (fun n hn => by
      have := List.all_eq_true.1 hsz n (DataW.weights_mem_each (j := 0) rfl rfl n hn)
      simpa using this)
    exact shaNil_walk a0 _ cap0 W

theorem shaNil_over : Rows.shaNilRow.holds Try.pinned (OpenSpec.ofChange Rows.shaNilSpec) :=
  OpenClaim.holds_of_wide 5 Try.f5 rfl rfl rfl rfl rfl rfl rfl ⟨rfl, rfl, rfl, rfl, rfl⟩ rfl rfl rfl rfl rfl (by kernel_rfl) Try.func5 (by kernel_rfl)
    (of_decide_eq_true (by kernel_rfl)) (by unfold Func.isWrapper; first | (rw [if_pos (by decide +kernel)]; kernel_rfl) | (rw [if_neg (by decide +kernel)]; exact ⟨rfl, rfl⟩))
    (fun os started H enc _ => shaNil_lifted os started H enc)

/-- The statement. -/
theorem shaNil_proved : Rows.ShaNilSaid := shaNil_over
#print axioms shaNil_proved
end Go.Proofs.Ytabdbddmmbccjaa
