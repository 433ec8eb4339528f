/-
  Joined of texts of mine, in build order: CB. Each says what it proves at its own head.
-/
import Derived.Test.YtgahjjdbpjgemaaDoorCards
import Derived.Test.YtgahjjdbpjgemaaDoorTie
import Derived.SevenTiedAt
import Derived.Test.YtgahjjdbpjgemaaDoorPh
set_option linter.unusedSimpArgs false
set_option linter.unusedVariables false

/-
  The statement 'PointReads': its arguments opened; the row; the card.
-/
namespace Go.Proofs.YtgahjjdbpjgemaaDoor
open Go.ChangeShapes Go.WideShapes Go.ChangeAt Go.RowKit

set_option maxRecDepth 100000 in
theorem pointReads_lifted (os : Os) (started : os.Started) (H : Type) (enc : TypeId × Value → H) :
    ReturnsInHanded {} Tryd.checked os 5 .any (fun w args => (Rows.pointReadsSpec.pre enc Tryd.prog Tryd.f5 [] false w args ∧ laidMetH Tryd.prog LL w) ∧ sizedMet enc Tryd.prog Tryd.f5 (OpenSpec.ofChange Rows.pointReadsSpec) false w args) (Rows.pointReadsSpec.post enc Tryd.prog Tryd.f5 false true false false) := by
  refine lift_laid (C := Tryd.checked) own started (by kernel_rfl) Tryd.func5 rfl rfl (tb := 4) (by kernel_rfl) Tryd.underlying4 laidOut (by kernel_rfl) (l := LL) ?_
    (ChangeSpec.witness_shaped (enc := enc) (C := Tryd.checked) (os := os) (X := fun w _ => laidMetH Tryd.prog LL w) false (World.doorLaid Tryd.prog 400 os) #[.slice none 0 0, .bool false] 8 rfl (World.shaped_of_RefB (by kernel_rfl) (by kernel_rfl)) (by kernel_rfl) (by kernel_rfl) (by kernel_rfl) (door_met os _)) ?_
  · intro ds hds
    rw [Tryd.params5] at hds
    match ds, hds with
    | [d0, d1], _ => exact ⟨rfl, rfl, rfl⟩
  · intro W args ds p hT hL
    obtain ⟨hA, ⟨base, hok⟩, hsz⟩ := hT
    rw [Tryd.params5] at hA hok hsz
    obtain ⟨v0, v1, d0, d1, p0, p1, rfl, rfl, rfl, h0, h1⟩ := trodAll_two hA
    obtain ⟨a0, len0, cap0, rfl⟩ := okWide_slice Tryd.underlying22 (hok 0 22 v0 rfl rfl)
    obtain ⟨fuel0, hf0⟩ := h0
    obtain ⟨b1, rfl, rfl, rfl⟩ := open_bool Tryd.underlying4 (hok 1 4 v1 rfl rfl) h1
    obtain ⟨l0, rfl, r0, s0⟩ := open_bytes Tryd.underlying22 Tryd.underlying5 cellsU8 bytesU8 (show DataW.trod enc Tryd.prog W 0 (fun _ => true) true fuel0 22 [.slice a0 len0 cap0] = some (d0, p0) from hf0)
    replace s0 := s0 (fun n hn => by
      have := List.all_eq_true.1 hsz n (DataW.weights_mem_each (j := 0) rfl rfl n hn)
      simpa using this)
    exact pointReads_walk a0 _ cap0 l0 b1 W rfl r0

theorem pointReads_over : Rows.pointReadsRow.holds Tryd.pinned (OpenSpec.ofChange Rows.pointReadsSpec) :=
  OpenClaim.holds_of_wide 5 Tryd.f5 rfl rfl rfl rfl rfl rfl rfl ⟨rfl, rfl, rfl, rfl, rfl⟩ rfl rfl rfl rfl rfl (by kernel_rfl) Tryd.func5 (by kernel_rfl)
    (of_decide_eq_true (by kernel_rfl)) (by unfold Func.isWrapper; first | (rw [if_pos (by decide +kernel)]; kernel_rfl) | (rw [if_neg (by decide +kernel)]; exact ⟨rfl, rfl⟩))
    (fun os started H enc _ => pointReads_lifted os started H enc)

/-- The card. -/
theorem pointReads_proved : Rows.PointReadsCardSaid :=
  Claim7.holds_tied_plain_at .later [] [.data, .data, .data, .sentinel, .sentinel] true (true, "c9b40510c079d1e14051804e9f3aa55b2e8148c7fdf3450800e1e5f47c4ae7be") true
    pointReads_over (fun _ h => by cases h) (by kernel_rfl) (fun _ h => by cases h) pointReads_row_tie rfl ⟨rfl, rfl⟩ (by kernel_rfl) rfl
    (fun f fn hf hfn => by
      obtain rfl : f = 5 := Option.some.inj ((show Tryd.prog.funcNamed "viaticum/viaticumlaw4.PointReads" = some 5 by kernel_rfl).symm.trans hf) |>.symm
      obtain rfl : fn = Tryd.f5 := (Option.some.inj (Tryd.func5.symm.trans hfn)).symm
      exact ⟨by kernel_rfl, fun j t ht => by
        rw [Tryd.params5] at ht
        have hm : t ∈ ([22, 4] : List TypeId) := by
          have := Array.mem_of_getElem? ht
          simpa using this
        have hall : (([22, 4] : List TypeId).all fun u => !Tryd.prog.wantsStandIn u) = true := by kernel_rfl
        have := List.all_eq_true.1 hall t hm
        exact (show Tryd.prog.wantsStandIn t = false by simpa using this)⟩)
    (by kernel_rfl)
#print axioms pointReads_proved
end Go.Proofs.YtgahjjdbpjgemaaDoor
