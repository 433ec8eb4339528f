/-
  The statement 'StoreOrder': its arguments opened; the row.
-/
import Derived.Test.YthpioncehigoaaaYq
import Derived.Test.YthpioncehigoaaaYr
namespace Go.Proofs.Ythpioncehigoaaa
open Go.ChangeShapes Go.WideShapes Go.ChangeAt Go.RowKit

set_option maxRecDepth 100000 in
theorem storeOrder_lifted (os : Os) (started : os.Started) (H : Type) (enc : TypeId × Value → H) :
    ReturnsInHanded {} Try.checked os 3 .any (Rows.storeOrderSpec.pre6 enc Try.prog Try.f3 Rows.storeOrderRow.domain false) (Rows.storeOrderSpec.post enc Try.prog Try.f3 false true false false) := by
  refine lift_law (C := Try.checked) own started (by kernel_rfl) Try.func3 rfl rfl (tb := 4) (by kernel_rfl) Try.underlying4 laidOut (by kernel_rfl) ?_
    (ChangeSpec.witness6 (enc := enc) (C := Try.checked) false ⟨#[], #[.agg #[.string ⟨#[]⟩, .slice none 0 0, .int .u32 0], .agg #[.string ⟨#[]⟩, .slice none 0 0, .int .u32 0], .agg #[.string ⟨#[]⟩, .slice none 0 0, .int .u32 0]], []⟩ 8 (by kernel_rfl) (by kernel_rfl) (by kernel_rfl) (by kernel_rfl)) ?_
  · intro ds hds
    rw [Try.params3] at hds
    match ds, hds with
    | [d0, d1, d2], _ => exact ⟨rfl, rfl, rfl⟩
  · intro W args ds p hT
    obtain ⟨hA, ⟨base, hok⟩, hsz⟩ := hT
    rw [Try.params3] at hA hok hsz
    obtain ⟨v0, v1, v2, d0, d1, d2, p0, p1, p2, rfl, rfl, rfl, h0, h1, h2⟩ := trodAll_three hA
    obtain ⟨f0, rfl, hf0⟩ := open_fact (hok 0 27 v0 rfl rfl) h0 (fun n hn => by
      have := List.all_eq_true.1 hsz n (DataW.weights_mem_each (j := 0) rfl rfl n hn)
      simpa using this)
    obtain ⟨f1, rfl, hf1⟩ := open_fact (hok 1 27 v1 rfl rfl) h1 (fun n hn => by
      have := List.all_eq_true.1 hsz n (DataW.weights_mem_each (j := 1) rfl rfl n hn)
      simpa using this)
    obtain ⟨f2, rfl, hf2⟩ := open_fact (hok 2 27 v2 rfl rfl) h2 (fun n hn => by
      have := List.all_eq_true.1 hsz n (DataW.weights_mem_each (j := 2) rfl rfl n hn)
      simpa using this)
    exact storeOrder_walk f0 f1 f2 W hf0 hf1 hf2

theorem storeOrder_over : Rows.storeOrderRow.holds Try.pinned (OpenSpec.ofChange Rows.storeOrderSpec) :=
  OpenClaim.holds_of_wide 3 Try.f3 rfl rfl rfl rfl rfl rfl rfl ⟨rfl, rfl, rfl, rfl, rfl⟩ rfl rfl rfl rfl rfl (by kernel_rfl) Try.func3 (by kernel_rfl)
    (of_decide_eq_true (by kernel_rfl)) (by unfold Func.isWrapper; first | (rw [if_pos (by decide +kernel)]; kernel_rfl) | (rw [if_neg (by decide +kernel)]; exact ⟨rfl, rfl⟩))
    (fun os started H enc _ => storeOrder_lifted os started H enc)

/-- The statement. -/
theorem storeOrder_proved : Rows.StoreOrderSaid := storeOrder_over
#print axioms storeOrder_proved
end Go.Proofs.Ythpioncehigoaaa
