/-
  The statement 'ProtoCut': its arguments opened; the row.
-/
import Derived.Test.YtcfonifaijeecaaLc
import Derived.Test.YtcfonifaijeecaaOp
namespace Go.Proofs.Ytcfonifaijeecaa
open Go.ChangeShapes Go.WideShapes Go.ChangeAt Go.RowKit

set_option maxRecDepth 100000 in
theorem protoCut_lifted (os : Os) (started : os.Started) (H : Type) (enc : TypeId × Value → H) :
    ReturnsInHanded {} Try.checked os 8 .any (Rows.protoCutSpec.pre6 enc Try.prog Try.f8 Rows.protoCutRow.domain false) (Rows.protoCutSpec.post enc Try.prog Try.f8 false true false false) := by
  refine lift_law (C := Try.checked) own started (by kernel_rfl) Try.func8 rfl rfl (tb := 4) (by kernel_rfl) Try.underlying4 laidOut (by kernel_rfl) ?_
    (ChangeSpec.witness6 (enc := enc) (C := Try.checked) false ⟨#[], #[.int .i64 0, .int .u64 0, .slice none 0 0, .bool false], []⟩ 8 (by kernel_rfl) (by kernel_rfl) (by kernel_rfl) (by kernel_rfl)) ?_
  · intro ds hds
    rw [Try.params8] at hds
    match ds, hds with
    | [d0, d1, d2, d3], _ => exact ⟨rfl, rfl, rfl⟩
  · intro W args ds p hT
    obtain ⟨hA, ⟨base, hok⟩, hsz⟩ := hT
    rw [Try.params8] at hA hok hsz
    obtain ⟨v0, v1, v2, v3, d0, d1, d2, d3, p0, p1, p2, p3, rfl, rfl, rfl, h0, h1, h2, h3⟩ := trodAll_four hA
    obtain ⟨n0, rfl, rfl, rfl, w0⟩ := open_int Try.underlying3 (hok 0 3 v0 rfl rfl) h0
    obtain ⟨z1, rfl, rfl, rfl, w1⟩ := open_int Try.underlying23 (hok 1 23 v1 rfl rfl) h1
    obtain ⟨n1, rfl, hn1⟩ := w64_of w1
    obtain ⟨a2, len2, cap2, rfl⟩ := okWide_slice Try.underlying27 (hok 2 27 v2 rfl rfl)
    obtain ⟨fuel2, hf2⟩ := h2
    obtain ⟨b3, rfl, rfl, rfl⟩ := open_bool Try.underlying4 (hok 3 4 v3 rfl rfl) h3
    obtain ⟨l2, rfl, r2, s2⟩ := open_bytes Try.underlying27 Try.underlying5 cellsU8 bytesU8 (show DataW.trod enc Try.prog W 0 (fun _ => true) true fuel2 27 [.slice a2 len2 cap2] = some (d2, p2) from hf2)
    replace s2 := s2 (fun n hn => by
      have := List.all_eq_true.1 hsz n (DataW.weights_mem_each (j := 2) rfl rfl n hn)
      simpa using this)
    exact cut_walk n0 n1 a2 cap2 l2 b3 W hn1 r2

theorem protoCut_over : Rows.protoCutRow.holds Try.pinned (OpenSpec.ofChange Rows.protoCutSpec) :=
  OpenClaim.holds_of_wide 8 Try.f8 rfl rfl rfl rfl rfl rfl rfl ⟨rfl, rfl, rfl, rfl, rfl⟩ rfl rfl rfl rfl rfl (by kernel_rfl) Try.func8 (by kernel_rfl)
    (of_decide_eq_true (by kernel_rfl)) (by unfold Func.isWrapper; first | (rw [if_pos (by decide +kernel)]; kernel_rfl) | (rw [if_neg (by decide +kernel)]; exact ⟨rfl, rfl⟩))
    (fun os started H enc _ => protoCut_lifted os started H enc)

/-- The statement. -/
theorem protoCut_proved : Rows.ProtoCutSaid := protoCut_over
#print axioms protoCut_proved
end Go.Proofs.Ytcfonifaijeecaa
