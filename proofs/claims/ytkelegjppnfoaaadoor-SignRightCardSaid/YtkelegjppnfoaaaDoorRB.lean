/-
  Joined of texts of mine, in build order: NB. Each says what it proves at its own head.
-/
import Derived.Test.YtkelegjppnfoaaaDoorCards
import Derived.Test.YtkelegjppnfoaaaDoorTie
import Derived.SevenTiedAt
import Derived.Test.YtkelegjppnfoaaaDoorPh
set_option linter.unusedSimpArgs false
set_option linter.unusedVariables false

/-
  The statement 'SignRight': its arguments opened; the row; the card.
-/
namespace Go.Proofs.YtkelegjppnfoaaaDoor
open Go.ChangeShapes Go.WideShapes Go.ChangeAt Go.RowKit

set_option maxRecDepth 100000 in
theorem signRight_lifted (os : Os) (started : os.Started) (H : Type) (enc : TypeId × Value → H) :
    ReturnsInHanded {} Tryd.checked os 4 .any (fun w args => (Rows.signRightSpec.pre enc Tryd.prog Tryd.f4 [] false w args ∧ laidMetH Tryd.prog LL w) ∧ sizedMet enc Tryd.prog Tryd.f4 (OpenSpec.ofChange Rows.signRightSpec) false w args) (Rows.signRightSpec.post enc Tryd.prog Tryd.f4 false true false false) := by
  refine lift_laid (C := Tryd.checked) own started (by kernel_rfl) Tryd.func4 rfl rfl (tb := 4) (by kernel_rfl) Tryd.underlying4 laidOut (by kernel_rfl) (l := LL) ?_
    (ChangeSpec.witness_shaped (enc := enc) (C := Tryd.checked) (os := os) (X := fun w _ => laidMetH Tryd.prog LL w) false (World.doorLaid Tryd.prog 400 os) #[.slice none 0 0, .slice none 0 0, .slice none 0 0] 8 rfl (World.shaped_of_RefB (by kernel_rfl) (by kernel_rfl)) (by kernel_rfl) (by kernel_rfl) (by kernel_rfl) (door_met os _)) ?_
  · intro ds hds
    rw [Tryd.params4] at hds
    match ds, hds with
    | [d0, d1, d2], _ => exact ⟨rfl, rfl, rfl⟩
  · intro W args ds p hT hL
    obtain ⟨hA, ⟨base, hok⟩, hsz⟩ := hT
    rw [Tryd.params4] at hA hok hsz
    obtain ⟨v0, v1, v2, d0, d1, d2, p0, p1, p2, rfl, rfl, rfl, h0, h1, h2⟩ := trodAll_three hA
    obtain ⟨a0, len0, cap0, rfl⟩ := okWide_slice Tryd.underlying22 (hok 0 22 v0 rfl rfl)
    obtain ⟨fuel0, hf0⟩ := h0
    obtain ⟨a1, len1, cap1, rfl⟩ := okWide_slice Tryd.underlying22 (hok 1 22 v1 rfl rfl)
    obtain ⟨fuel1, hf1⟩ := h1
    obtain ⟨a2, len2, cap2, rfl⟩ := okWide_slice Tryd.underlying22 (hok 2 22 v2 rfl rfl)
    obtain ⟨fuel2, hf2⟩ := h2
    obtain ⟨l0, rfl, r0, s0⟩ := open_bytes Tryd.underlying22 Tryd.underlying5 cellsU8 bytesU8 (show DataW.trod enc Tryd.prog W 0 (fun _ => true) true fuel0 22 [.slice a0 len0 cap0] = some (d0, p0) from hf0)
    replace s0 := s0 (fun n hn => by
      have := List.all_eq_true.1 hsz n (DataW.weights_mem_each (j := 0) rfl rfl n hn)
      simpa using this)
    obtain ⟨l1, rfl, r1, s1⟩ := open_bytes Tryd.underlying22 Tryd.underlying5 cellsU8 bytesU8 (show DataW.trod enc Tryd.prog W 0 (fun _ => true) true fuel1 22 [.slice a1 len1 cap1] = some (d1, p1) from hf1)
    replace s1 := s1 (fun n hn => by
      have := List.all_eq_true.1 hsz n (DataW.weights_mem_each (j := 1) rfl rfl n hn)
      simpa using this)
    obtain ⟨l2, rfl, r2, s2⟩ := open_bytes Tryd.underlying22 Tryd.underlying5 cellsU8 bytesU8 (show DataW.trod enc Tryd.prog W 0 (fun _ => true) true fuel2 22 [.slice a2 len2 cap2] = some (d2, p2) from hf2)
    replace s2 := s2 (fun n hn => by
      have := List.all_eq_true.1 hsz n (DataW.weights_mem_each (j := 2) rfl rfl n hn)
      simpa using this)
    exact signRight_walk a0 a1 a2 _ cap0 _ cap1 _ cap2 l0 l1 l2 W rfl rfl rfl r0 r1 r2

theorem signRight_over : Rows.signRightRow.holds Tryd.pinned (OpenSpec.ofChange Rows.signRightSpec) :=
  OpenClaim.holds_of_wide 4 Tryd.f4 rfl rfl rfl rfl rfl rfl rfl ⟨rfl, rfl, rfl, rfl, rfl⟩ rfl rfl rfl rfl rfl (by kernel_rfl) Tryd.func4 (by kernel_rfl)
    (of_decide_eq_true (by kernel_rfl)) (by unfold Func.isWrapper; first | (rw [if_pos (by decide +kernel)]; kernel_rfl) | (rw [if_neg (by decide +kernel)]; exact ⟨rfl, rfl⟩))
    (fun os started H enc _ => signRight_lifted os started H enc)

/-- The card. -/
theorem signRight_proved : Rows.SignRightCardSaid :=
  Claim7.holds_tied_plain_at .later [] [.data, .data, .data, .sentinel, .sentinel] true (true, "4b076d0d7ce315a0586ad79c6325206cf43d3d69a9373ae6ca14387e75c1f393") true
    signRight_over (fun _ h => by cases h) (by kernel_rfl) (fun _ h => by cases h) signRight_row_tie rfl ⟨rfl, rfl⟩ (by kernel_rfl) rfl
    (fun f fn hf hfn => by
      obtain rfl : f = 4 := Option.some.inj ((show Tryd.prog.funcNamed "viaticum/viaticumlaw5.SignRight" = some 4 by kernel_rfl).symm.trans hf) |>.symm
      obtain rfl : fn = Tryd.f4 := (Option.some.inj (Tryd.func4.symm.trans hfn)).symm
      exact ⟨by kernel_rfl, fun j t ht => by
        rw [Tryd.params4] at ht
        have hm : t ∈ ([22, 22, 22] : List TypeId) := by
          have := Array.mem_of_getElem? ht
          simpa using this
        have hall : (([22, 22, 22] : List TypeId).all fun u => !Tryd.prog.wantsStandIn u) = true := by kernel_rfl
        have := List.all_eq_true.1 hall t hm
        exact (show Tryd.prog.wantsStandIn t = false by simpa using this)⟩)
    (by kernel_rfl)
#print axioms signRight_proved
end Go.Proofs.YtkelegjppnfoaaaDoor
