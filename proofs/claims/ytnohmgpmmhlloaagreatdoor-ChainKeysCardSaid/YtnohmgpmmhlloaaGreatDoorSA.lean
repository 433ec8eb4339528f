/-
  Joined of texts of mine, in build order: NF. Each says what it proves at its own head.
-/
import Derived.Test.YtnohmgpmmhlloaaGreatDoorCards
import Derived.Test.YtnohmgpmmhlloaaGreatDoorTie
import Derived.SevenTiedAt
import Derived.Test.YtnohmgpmmhlloaaGreatDoorPg
set_option linter.unusedSimpArgs false
set_option linter.unusedVariables false

namespace Go.Proofs.YtnohmgpmmhlloaaGreatDoor
open Go.ChangeShapes Go.WideShapes Go.ChangeAt Go.RowKit

set_option maxRecDepth 100000 in
theorem chainKeys_lifted (os : Os) (started : os.Started) (H : Type) (enc : TypeId × Value → H) :
    ReturnsInHanded {} Tryz.checked os 3 .any (fun w args => (Rows.chainKeysSpec.pre enc Tryz.prog Tryz.f3 [] false w args ∧ laidMetH Tryz.prog LL w) ∧ sizedMet enc Tryz.prog Tryz.f3 (OpenSpec.ofChange Rows.chainKeysSpec) false w args) (Rows.chainKeysSpec.post enc Tryz.prog Tryz.f3 false true false false) := by
  refine lift_laid (C := Tryz.checked) own started (by kernel_rfl) Tryz.func3 rfl rfl (tb := 4) (by kernel_rfl) Tryz.underlying4 laidOut (by kernel_rfl) (l := LL) ?_
    (ChangeSpec.witness_shaped (enc := enc) (C := Tryz.checked) (os := os) (X := fun w _ => laidMetH Tryz.prog LL w) false (World.doorLaid Tryz.prog 400 os) #[.int .u8 0, .int .u8 0, .slice none 0 0] 8 rfl (World.shaped_of_RefB (by kernel_rfl) (by kernel_rfl)) (by kernel_rfl) (by kernel_rfl) (by kernel_rfl) (door_met os _)) ?_
  · intro ds hds
    rw [Tryz.params3] at hds
    match ds, hds with
    | [d0, d1, d2], _ => exact ⟨rfl, rfl, rfl⟩
  · intro W args ds p hT hL
    obtain ⟨hA, ⟨base, hok⟩, hsz⟩ := hT
    rw [Tryz.params3] at hA hok hsz
    obtain ⟨v0, v1, v2, d0, d1, d2, p0, p1, p2, rfl, rfl, rfl, h0, h1, h2⟩ := trodAll_three hA
    obtain ⟨z0, rfl, rfl, rfl, w0⟩ := open_int Tryz.underlying5 (hok 0 5 v0 rfl rfl) h0
    obtain ⟨n0, rfl, hn0⟩ := u8_of w0
    obtain ⟨z1, rfl, rfl, rfl, w1⟩ := open_int Tryz.underlying5 (hok 1 5 v1 rfl rfl) h1
    obtain ⟨n1, rfl, hn1⟩ := u8_of w1
    obtain ⟨a2, len2, cap2, rfl⟩ := okWide_slice Tryz.underlying22 (hok 2 22 v2 rfl rfl)
    obtain ⟨fuel2, hf2⟩ := h2
    obtain ⟨l2, rfl, r2, s2⟩ := open_bytes Tryz.underlying22 Tryz.underlying5 cellsU8 bytesU8 (show DataW.trod enc Tryz.prog W 0 (fun _ => true) true fuel2 22 [.slice a2 len2 cap2] = some (d2, p2) from hf2)
    replace s2 := s2 (fun n hn => by
      have := List.all_eq_true.1 hsz n (DataW.weights_mem_each (j := 2) rfl rfl n hn)
      simpa using this)
    exact chainKeys_nat n0 n1 hn0 hn1 a2 _ cap2 l2 W rfl r2

theorem chainKeys_over : Rows.chainKeysRow.holds Tryz.pinned (OpenSpec.ofChange Rows.chainKeysSpec) :=
  OpenClaim.holds_of_wide 3 Tryz.f3 rfl rfl rfl rfl rfl rfl rfl ⟨rfl, rfl, rfl, rfl, rfl⟩ rfl rfl rfl rfl rfl (by kernel_rfl) Tryz.func3 (by kernel_rfl)
    (of_decide_eq_true (by kernel_rfl)) (by unfold Func.isWrapper; first | (rw [if_pos (by decide +kernel)]; kernel_rfl) | (rw [if_neg (by decide +kernel)]; exact ⟨rfl, rfl⟩))
    (fun os started H enc _ => chainKeys_lifted os started H enc)

theorem chainKeys_proved : Rows.ChainKeysCardSaid :=
  Claim7.holds_tied_plain_at .later [] [.data, .data, .data, .sentinel, .sentinel] true (true, "5307a9007335d7c83d3ec3980db5ef60e9a38f7de7da356abba6370d761985cc") true
    chainKeys_over (fun _ h => by cases h) (by kernel_rfl) (fun _ h => by cases h) chainKeys_row_tie rfl ⟨rfl, rfl⟩ (by kernel_rfl) rfl
    (fun f fn hf hfn => by
      obtain rfl : f = 3 := Option.some.inj ((show Tryz.prog.funcNamed "viaticum/viaticumlaw24.ChainKeys" = some 3 by kernel_rfl).symm.trans hf) |>.symm
      obtain rfl : fn = Tryz.f3 := (Option.some.inj (Tryz.func3.symm.trans hfn)).symm
      exact ⟨by kernel_rfl, fun j t ht => by
        rw [Tryz.params3] at ht
        have hm : t ∈ ([5, 5, 22] : List TypeId) := by
          have := Array.mem_of_getElem? ht
          simpa using this
        have hall : (([5, 5, 22] : List TypeId).all fun u => !Tryz.prog.wantsStandIn u) = true := by kernel_rfl
        have := List.all_eq_true.1 hall t hm
        exact (show Tryz.prog.wantsStandIn t = false by simpa using this)⟩)
    (by kernel_rfl)
#print axioms chainKeys_proved
end Go.Proofs.YtnohmgpmmhlloaaGreatDoor
