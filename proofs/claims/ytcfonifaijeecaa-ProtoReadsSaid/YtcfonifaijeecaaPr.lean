/-
  The statement 'ProtoReads': its arguments opened; the row.
-/
import Derived.Test.YtcfonifaijeecaaLr
import Derived.Test.YtcfonifaijeecaaOp
namespace Go.Proofs.Ytcfonifaijeecaa
open Go.ChangeShapes Go.WideShapes Go.ChangeAt Go.RowKit

set_option maxRecDepth 100000 in
theorem protoReads_lifted (os : Os) (started : os.Started) (H : Type) (enc : TypeId × Value → H) :
    ReturnsInHanded {} Try.checked os 4 .any (Rows.protoReadsSpec.pre6 enc Try.prog Try.f4 Rows.protoReadsRow.domain false) (Rows.protoReadsSpec.post enc Try.prog Try.f4 false true false false) := by
  refine lift_law (C := Try.checked) own started (by kernel_rfl) Try.func4 rfl rfl (tb := 4) (by kernel_rfl) Try.underlying4 laidOut (by kernel_rfl) ?_
    (ChangeSpec.witness6 (enc := enc) (C := Try.checked) false ⟨#[], #[.slice none 0 0, .slice none 0 0, .int .u8 0, .int .i64 0, .slice none 0 0], []⟩ 8 (by kernel_rfl) (by kernel_rfl) (by kernel_rfl) (by kernel_rfl)) ?_
  · intro ds hds
    rw [Try.params4] at hds
    match ds, hds with
    | [d0, d1, d2, d3, d4], _ => exact ⟨rfl, rfl, rfl⟩
  · intro W args ds p hT
    obtain ⟨hA, ⟨base, hok⟩, hsz⟩ := hT
    rw [Try.params4] at hA hok hsz
    obtain ⟨v0, v1, v2, v3, v4, d0, d1, d2, d3, d4, p0, p1, p2, p3, p4, rfl, rfl, rfl, h0, h1, h2, h3, h4⟩ := trodAll_five hA
    obtain ⟨a0, len0, cap0, rfl⟩ := okWide_slice Try.underlying22 (hok 0 22 v0 rfl rfl)
    obtain ⟨fuel0, hf0⟩ := h0
    obtain ⟨a1, len1, cap1, rfl⟩ := okWide_slice Try.underlying41 (hok 1 41 v1 rfl rfl)
    obtain ⟨fuel1, hf1⟩ := h1
    obtain ⟨z2, rfl, rfl, rfl, w2⟩ := open_int Try.underlying5 (hok 2 5 v2 rfl rfl) h2
    obtain ⟨n2, rfl, hn2⟩ := u8_of w2
    obtain ⟨n3, rfl, rfl, rfl, w3⟩ := open_int Try.underlying3 (hok 3 3 v3 rfl rfl) h3
    obtain ⟨a4, len4, cap4, rfl⟩ := okWide_slice Try.underlying27 (hok 4 27 v4 rfl rfl)
    obtain ⟨fuel4, hf4⟩ := h4
    obtain ⟨ps0, r0⟩ := open_puts (show DataW.trod enc Try.prog W 0 (fun _ => true) true fuel0 22 [.slice a0 len0 cap0] = some (d0, p0) from hf0) (fun n hn => by
      have := List.all_eq_true.1 hsz n (DataW.weights_mem_each (j := 0) rfl rfl n hn)
      simpa using this)
    obtain ⟨l1, s1, r1, q1⟩ := open_nums Try.underlying41 Try.underlying3 cellsInt (show DataW.trod enc Try.prog W 0 (fun _ => true) true fuel1 41 [.slice a1 len1 cap1] = some (d1, p1) from hf1)
    obtain ⟨l4, rfl, r4, s4⟩ := open_bytes Try.underlying27 Try.underlying5 cellsU8 bytesU8 (show DataW.trod enc Try.prog W 0 (fun _ => true) true fuel4 27 [.slice a4 len4 cap4] = some (d4, p4) from hf4)
    replace s4 := s4 (fun n hn => by
      have := List.all_eq_true.1 hsz n (DataW.weights_mem_each (j := 4) rfl rfl n hn)
      simpa using this)
    exact reads_walk _ ps0 a1 len1 cap1 l1 n2 n3 a4 cap4 l4 W r0 s1 r1 hn2 r4

theorem protoReads_over : Rows.protoReadsRow.holds Try.pinned (OpenSpec.ofChange Rows.protoReadsSpec) :=
  OpenClaim.holds_of_wide 4 Try.f4 rfl rfl rfl rfl rfl rfl rfl ⟨rfl, rfl, rfl, rfl, rfl⟩ rfl rfl rfl rfl rfl (by kernel_rfl) Try.func4 (by kernel_rfl)
    (of_decide_eq_true (by kernel_rfl)) (by unfold Func.isWrapper; first | (rw [if_pos (by decide +kernel)]; kernel_rfl) | (rw [if_neg (by decide +kernel)]; exact ⟨rfl, rfl⟩))
    (fun os started H enc _ => protoReads_lifted os started H enc)

/-- The statement. -/
theorem protoReads_proved : Rows.ProtoReadsSaid := protoReads_over
#print axioms protoReads_proved
end Go.Proofs.Ytcfonifaijeecaa
