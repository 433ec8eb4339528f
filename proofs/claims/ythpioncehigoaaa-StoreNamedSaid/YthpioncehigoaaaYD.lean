/-
  The statement 'StoreNamed': its arguments opened; the row.
-/
import Derived.Test.YthpioncehigoaaaYq
import Derived.Test.YthpioncehigoaaaYy
namespace Go.Proofs.Ythpioncehigoaaa
open Go.ChangeShapes Go.WideShapes Go.ChangeAt Go.RowKit

set_option maxRecDepth 100000 in
theorem storeNamed_lifted (os : Os) (started : os.Started) (H : Type) (enc : TypeId × Value → H) :
    ReturnsInHanded {} Try.checked os 7 .any (Rows.storeNamedSpec.pre6 enc Try.prog Try.f7 Rows.storeNamedRow.domain false) (Rows.storeNamedSpec.post enc Try.prog Try.f7 false true false false) := by
  refine lift_law (C := Try.checked) own started (by kernel_rfl) Try.func7 rfl rfl (tb := 4) (by kernel_rfl) Try.underlying4 laidOut (by kernel_rfl) ?_
    (ChangeSpec.witness6 (enc := enc) (C := Try.checked) false ⟨#[], #[.slice none 0 0], []⟩ 8 (by kernel_rfl) (by kernel_rfl) (by kernel_rfl) (by kernel_rfl)) ?_
  · intro ds hds
    rw [Try.params7] at hds
    match ds, hds with
    | [d0], _ => exact ⟨rfl, rfl, rfl⟩
  · intro W args ds p hT
    obtain ⟨hA, ⟨base, hok⟩, hsz⟩ := hT
    rw [Try.params7] at hA hok hsz
    obtain ⟨v0, d0, rfl, rfl, h0⟩ := trodAll_one hA
    obtain ⟨a0, len0, cap0, rfl⟩ := okWide_slice Try.underlying29 (hok 0 29 v0 rfl rfl)
    obtain ⟨fuel0, hf0⟩ := h0
    obtain ⟨l0, rfl, r0, m0⟩ := open_facts (show DataW.trod enc Try.prog W 0 (fun _ => true) true fuel0 29 [.slice a0 len0 cap0] = some (d0, p) from hf0) (fun n hn => by
      have := List.all_eq_true.1 hsz n (DataW.weights_mem_each (j := 0) rfl rfl n hn)
      simpa using this)
    exact storeNamed_walk l0 _ _ r0 m0

theorem storeNamed_over : Rows.storeNamedRow.holds Try.pinned (OpenSpec.ofChange Rows.storeNamedSpec) :=
  OpenClaim.holds_of_wide 7 Try.f7 rfl rfl rfl rfl rfl rfl rfl ⟨rfl, rfl, rfl, rfl, rfl⟩ rfl rfl rfl rfl rfl (by kernel_rfl) Try.func7 (by kernel_rfl)
    (of_decide_eq_true (by kernel_rfl)) (by unfold Func.isWrapper; first | (rw [if_pos (by decide +kernel)]; kernel_rfl) | (rw [if_neg (by decide +kernel)]; exact ⟨rfl, rfl⟩))
    (fun os started H enc _ => storeNamed_lifted os started H enc)

/-- The statement. -/
theorem storeNamed_proved : Rows.StoreNamedSaid := storeNamed_over
#print axioms storeNamed_proved
end Go.Proofs.Ythpioncehigoaaa
