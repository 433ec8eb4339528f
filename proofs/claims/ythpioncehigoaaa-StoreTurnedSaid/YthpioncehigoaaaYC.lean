/-
  The statement 'StoreTurned': its arguments opened; the row.
-/
import Derived.Test.YthpioncehigoaaaYq
import Derived.Test.YthpioncehigoaaaYv
namespace Go.Proofs.Ythpioncehigoaaa
open Go.ChangeShapes Go.WideShapes Go.ChangeAt Go.RowKit

set_option maxRecDepth 100000 in
theorem storeTurned_lifted (os : Os) (started : os.Started) (H : Type) (enc : TypeId × Value → H) :
    ReturnsInHanded {} Try.checked os 4 .any (Rows.storeTurnedSpec.pre6 enc Try.prog Try.f4 Rows.storeTurnedRow.domain false) (Rows.storeTurnedSpec.post enc Try.prog Try.f4 false true false false) := by
  refine lift_law (C := Try.checked) own started (by kernel_rfl) Try.func4 rfl rfl (tb := 4) (by kernel_rfl) Try.underlying4 laidOut (by kernel_rfl) ?_
    (ChangeSpec.witness6 (enc := enc) (C := Try.checked) false ⟨#[], #[.slice none 0 0, .int .i64 0], []⟩ 8 (by kernel_rfl) (by kernel_rfl) (by kernel_rfl) (by kernel_rfl)) ?_
  · intro ds hds
    rw [Try.params4] at hds
    match ds, hds with
    | [d0, d1], _ => exact ⟨rfl, rfl, rfl⟩
  · intro W args ds p hT
    obtain ⟨hA, ⟨base, hok⟩, hsz⟩ := hT
    rw [Try.params4] at hA hok hsz
    obtain ⟨v0, v1, d0, d1, p0, p1, rfl, rfl, rfl, h0, h1⟩ := trodAll_two hA
    obtain ⟨a0, len0, cap0, rfl⟩ := okWide_slice Try.underlying29 (hok 0 29 v0 rfl rfl)
    obtain ⟨fuel0, hf0⟩ := h0
    obtain ⟨n1, rfl, rfl, rfl, w1⟩ := open_int Try.underlying3 (hok 1 3 v1 rfl rfl) h1
    obtain ⟨l0, rfl, r0, m0⟩ := open_facts (show DataW.trod enc Try.prog W 0 (fun _ => true) true fuel0 29 [.slice a0 len0 cap0] = some (d0, p0) from hf0) (fun n hn => by
      have := List.all_eq_true.1 hsz n (DataW.weights_mem_each (j := 0) rfl rfl n hn)
      simpa using this)
    exact storeTurned_walk l0 n1 _ _ r0 m0

theorem storeTurned_over : Rows.storeTurnedRow.holds Try.pinned (OpenSpec.ofChange Rows.storeTurnedSpec) :=
  OpenClaim.holds_of_wide 4 Try.f4 rfl rfl rfl rfl rfl rfl rfl ⟨rfl, rfl, rfl, rfl, rfl⟩ rfl rfl rfl rfl rfl (by kernel_rfl) Try.func4 (by kernel_rfl)
    (of_decide_eq_true (by kernel_rfl)) (by unfold Func.isWrapper; first | (rw [if_pos (by decide +kernel)]; kernel_rfl) | (rw [if_neg (by decide +kernel)]; exact ⟨rfl, rfl⟩))
    (fun os started H enc _ => storeTurned_lifted os started H enc)

/-- The statement. -/
theorem storeTurned_proved : Rows.StoreTurnedSaid := storeTurned_over
#print axioms storeTurned_proved
end Go.Proofs.Ythpioncehigoaaa
