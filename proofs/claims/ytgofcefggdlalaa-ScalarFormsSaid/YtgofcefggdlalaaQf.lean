/-
  The statement 'ScalarForms': its arguments opened; the row.
-/
import Derived.Test.YtgofcefggdlalaaRe
import Derived.Test.YtgofcefggdlalaaOq
namespace Go.Proofs.Ytgofcefggdlalaa
open Go.ChangeShapes Go.WideShapes Go.ChangeAt Go.RowKit

set_option maxRecDepth 100000 in
theorem scalarForms_lifted (os : Os) (started : os.Started) (H : Type) (enc : TypeId × Value → H) :
    ReturnsInHanded {} Try.checked os 7 .any (Rows.scalarFormsSpec.pre6 enc Try.prog Try.f7 Rows.scalarFormsRow.domain false) (Rows.scalarFormsSpec.post enc Try.prog Try.f7 false true false false) := by
  refine lift_law (C := Try.checked) own started (by kernel_rfl) Try.func7 rfl rfl (tb := 4) (by kernel_rfl) Try.underlying4 laidOut (by kernel_rfl) ?_
    (ChangeSpec.witness6 (enc := enc) (C := Try.checked) false ⟨#[], #[.slice none 0 0, .slice none 0 0, .slice none 0 0], []⟩ 8 (by kernel_rfl) (by kernel_rfl) (by kernel_rfl) (by kernel_rfl)) ?_
  · intro ds hds
    rw [Try.params7] at hds
    match ds, hds with
    | [d0, d1, d2], _ => exact ⟨rfl, rfl, rfl⟩
  · intro W args ds p hT
    obtain ⟨hA, ⟨base, hok⟩, hsz⟩ := hT
    rw [Try.params7] at hA hok hsz
    obtain ⟨v0, v1, v2, d0, d1, d2, p0, p1, p2, rfl, rfl, rfl, h0, h1, h2⟩ := trodAll_three hA
    obtain ⟨a0, len0, cap0, rfl⟩ := okWide_slice Try.underlying22 (hok 0 22 v0 rfl rfl)
    obtain ⟨fuel0, hf0⟩ := h0
    obtain ⟨a1, len1, cap1, rfl⟩ := okWide_slice Try.underlying22 (hok 1 22 v1 rfl rfl)
    obtain ⟨fuel1, hf1⟩ := h1
    obtain ⟨a2, len2, cap2, rfl⟩ := okWide_slice Try.underlying22 (hok 2 22 v2 rfl rfl)
    obtain ⟨fuel2, hf2⟩ := h2
    obtain ⟨l0, rfl, r0, s0⟩ := open_bytes Try.underlying22 Try.underlying5 cellsU8 bytesU8 (show DataW.trod enc Try.prog W 0 (fun _ => true) true fuel0 22 [.slice a0 len0 cap0] = some (d0, p0) from hf0)
    replace s0 := s0 (fun n hn => by
      have := List.all_eq_true.1 hsz n (DataW.weights_mem_each (j := 0) rfl rfl n hn)
      simpa using this)
    obtain ⟨l1, rfl, r1, s1⟩ := open_bytes Try.underlying22 Try.underlying5 cellsU8 bytesU8 (show DataW.trod enc Try.prog W 0 (fun _ => true) true fuel1 22 [.slice a1 len1 cap1] = some (d1, p1) from hf1)
    replace s1 := s1 (fun n hn => by
      have := List.all_eq_true.1 hsz n (DataW.weights_mem_each (j := 1) rfl rfl n hn)
      simpa using this)
    obtain ⟨l2, rfl, r2, s2⟩ := open_bytes Try.underlying22 Try.underlying5 cellsU8 bytesU8 (show DataW.trod enc Try.prog W 0 (fun _ => true) true fuel2 22 [.slice a2 len2 cap2] = some (d2, p2) from hf2)
    replace s2 := s2 (fun n hn => by
      have := List.all_eq_true.1 hsz n (DataW.weights_mem_each (j := 2) rfl rfl n hn)
      simpa using this)
    exact scalarForms_walk a0 a1 a2 cap0 cap1 cap2 l0 l1 l2 W r0 r1 r2

theorem scalarForms_over : Rows.scalarFormsRow.holds Try.pinned (OpenSpec.ofChange Rows.scalarFormsSpec) :=
  OpenClaim.holds_of_wide 7 Try.f7 rfl rfl rfl rfl rfl rfl rfl ⟨rfl, rfl, rfl, rfl, rfl⟩ rfl rfl rfl rfl rfl (by kernel_rfl) Try.func7 (by kernel_rfl)
    (of_decide_eq_true (by kernel_rfl)) (by unfold Func.isWrapper; first | (rw [if_pos (by decide +kernel)]; kernel_rfl) | (rw [if_neg (by decide +kernel)]; exact ⟨rfl, rfl⟩))
    (fun os started H enc _ => scalarForms_lifted os started H enc)

/-- The statement. -/
theorem scalarForms_proved : Rows.ScalarFormsSaid := scalarForms_over
#print axioms scalarForms_proved
end Go.Proofs.Ytgofcefggdlalaa
