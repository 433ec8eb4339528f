/-
  Joined of texts of mine, in build order: NG. Each says what it proves at its own head.
-/
import Derived.Test.YtnohmgpmmhlloaaDoorCards
import Derived.Test.YtnohmgpmmhlloaaDoorTie
import Derived.SevenTiedAt
import Derived.Test.YtnohmgpmmhlloaaDoorPg
set_option linter.unusedSimpArgs false
set_option linter.unusedVariables false

namespace Go.Proofs.YtnohmgpmmhlloaaDoor
open Go.ChangeShapes Go.WideShapes Go.ChangeAt Go.RowKit

set_option maxRecDepth 100000 in
theorem chainBlocks_lifted (os : Os) (started : os.Started) (H : Type) (enc : TypeId × Value → H) :
    ReturnsInHanded {} Tryd.checked os 3 .any (fun w args => (Rows.chainBlocksSpec.pre enc Tryd.prog Tryd.f3 [] false w args ∧ laidMetH Tryd.prog LL w) ∧ sizedMet enc Tryd.prog Tryd.f3 (OpenSpec.ofChange Rows.chainBlocksSpec) false w args) (Rows.chainBlocksSpec.post enc Tryd.prog Tryd.f3 false true false false) := by
  refine lift_laid (C := Tryd.checked) own started (by kernel_rfl) Tryd.func3 rfl rfl (tb := 4) (by kernel_rfl) Tryd.underlying4 laidOut (by kernel_rfl) (l := LL) ?_
    (ChangeSpec.witness_shaped (enc := enc) (C := Tryd.checked) (os := os) (X := fun w _ => laidMetH Tryd.prog LL w) false (World.doorLaid Tryd.prog 400 os) #[.int .u8 0, .int .i64 0] 8 rfl (World.shaped_of_RefB (by kernel_rfl) (by kernel_rfl)) (by kernel_rfl) (by kernel_rfl) (by kernel_rfl) (door_met os _)) ?_
  · intro ds hds
    rw [Tryd.params3] at hds
    match ds, hds with
    | [d0, d1], _ => exact ⟨rfl, rfl, rfl⟩
  · intro W args ds p hT hL
    obtain ⟨hA, ⟨base, hok⟩, hsz⟩ := hT
    rw [Tryd.params3] at hA hok hsz
    obtain ⟨v0, v1, d0, d1, p0, p1, rfl, rfl, rfl, h0, h1⟩ := trodAll_two hA
    obtain ⟨z0, rfl, rfl, rfl, w0⟩ := open_int Tryd.underlying5 (hok 0 5 v0 rfl rfl) h0
    obtain ⟨n0, rfl, hn0⟩ := u8_of w0
    obtain ⟨n1, rfl, rfl, rfl, w1⟩ := open_int Tryd.underlying3 (hok 1 3 v1 rfl rfl) h1
    exact chainBlocks_nat n0 hn0 n1 (i64_of w1) W

theorem chainBlocks_over : Rows.chainBlocksRow.holds Tryd.pinned (OpenSpec.ofChange Rows.chainBlocksSpec) :=
  OpenClaim.holds_of_wide 3 Tryd.f3 rfl rfl rfl rfl rfl rfl rfl ⟨rfl, rfl, rfl, rfl, rfl⟩ rfl rfl rfl rfl rfl (by kernel_rfl) Tryd.func3 (by kernel_rfl)
    (of_decide_eq_true (by kernel_rfl)) (by unfold Func.isWrapper; first | (rw [if_pos (by decide +kernel)]; kernel_rfl) | (rw [if_neg (by decide +kernel)]; exact ⟨rfl, rfl⟩))
    (fun os started H enc _ => chainBlocks_lifted os started H enc)

theorem chainBlocks_proved : Rows.ChainBlocksCardSaid :=
  Claim7.holds_tied_plain_at .later [] [.data, .data, .data, .sentinel, .sentinel] true (true, "9aa92f11b7a5b2b8eff6ef88d48d93f8aff51a8782ad6d2263a8982710827471") true
    chainBlocks_over (fun _ h => by cases h) (by kernel_rfl) (fun _ h => by cases h) chainBlocks_row_tie rfl ⟨rfl, rfl⟩ (by kernel_rfl) rfl
    (fun f fn hf hfn => by
      obtain rfl : f = 3 := Option.some.inj ((show Tryd.prog.funcNamed "viaticum/viaticumlaw24.ChainBlocks" = some 3 by kernel_rfl).symm.trans hf) |>.symm
      obtain rfl : fn = Tryd.f3 := (Option.some.inj (Tryd.func3.symm.trans hfn)).symm
      exact ⟨by kernel_rfl, fun j t ht => by
        rw [Tryd.params3] at ht
        have hm : t ∈ ([5, 3] : List TypeId) := by
          have := Array.mem_of_getElem? ht
          simpa using this
        have hall : (([5, 3] : List TypeId).all fun u => !Tryd.prog.wantsStandIn u) = true := by kernel_rfl
        have := List.all_eq_true.1 hall t hm
        exact (show Tryd.prog.wantsStandIn t = false by simpa using this)⟩)
    (by kernel_rfl)
#print axioms chainBlocks_proved
end Go.Proofs.YtnohmgpmmhlloaaDoor
