/-
  Joined of texts of mine, in build order: ND. Each says what it proves at its own head.
-/
import Derived.Test.YtkelegjppnfoaaaGreatDoorCards
import Derived.Test.YtkelegjppnfoaaaGreatDoorTie
import Derived.SevenTiedAt
import Derived.Test.YtkelegjppnfoaaaGreatDoorPk
set_option linter.unusedSimpArgs false
set_option linter.unusedVariables false

/-
  The statement 'SignVerifies': its arguments opened; the row; the card.
-/
namespace Go.Proofs.YtkelegjppnfoaaaGreatDoor
open Go.ChangeShapes Go.WideShapes Go.ChangeAt Go.RowKit

set_option maxRecDepth 100000 in
theorem signVerifies_lifted (os : Os) (started : os.Started) (H : Type) (enc : TypeId × Value → H) :
    ReturnsInHanded {} Tryz.checked os 4 .any (fun w args => (Rows.signVerifiesSpec.pre enc Tryz.prog Tryz.f4 [] false w args ∧ laidMetH Tryz.prog LL w) ∧ sizedMet enc Tryz.prog Tryz.f4 (OpenSpec.ofChange Rows.signVerifiesSpec) false w args) (Rows.signVerifiesSpec.post enc Tryz.prog Tryz.f4 false true false false) := by
  refine lift_laid (C := Tryz.checked) own started (by kernel_rfl) Tryz.func4 rfl rfl (tb := 4) (by kernel_rfl) Tryz.underlying4 laidOut (by kernel_rfl) (l := LL) ?_
    (ChangeSpec.witness_shaped (enc := enc) (C := Tryz.checked) (os := os) (X := fun w _ => laidMetH Tryz.prog LL w) false (World.doorLaid Tryz.prog 400 os) #[.slice none 0 0, .slice none 0 0, .int .i64 0, .int .u8 0, .slice none 0 0, .int .i64 0] 8 rfl (World.shaped_of_RefB (by kernel_rfl) (by kernel_rfl)) (by kernel_rfl) (by kernel_rfl) (by kernel_rfl) (door_met os _)) ?_
  · intro ds hds
    rw [Tryz.params4] at hds
    match ds, hds with
    | [d0, d1, d2, d3, d4, d5], _ => exact ⟨rfl, rfl, rfl⟩
  · intro W args ds p hT hL
    obtain ⟨hA, ⟨base, hok⟩, hsz⟩ := hT
    rw [Tryz.params4] at hA hok hsz
    obtain ⟨v0, v1, v2, v3, v4, v5, d0, d1, d2, d3, d4, d5, p0, p1, p2, p3, p4, p5, rfl, rfl, rfl, h0, h1, h2, h3, h4, h5⟩ := trodAll_six hA
    obtain ⟨a0, len0, cap0, rfl⟩ := okWide_slice Tryz.underlying22 (hok 0 22 v0 rfl rfl)
    obtain ⟨fuel0, hf0⟩ := h0
    obtain ⟨a1, len1, cap1, rfl⟩ := okWide_slice Tryz.underlying22 (hok 1 22 v1 rfl rfl)
    obtain ⟨fuel1, hf1⟩ := h1
    obtain ⟨n2, rfl, rfl, rfl, w2⟩ := open_int Tryz.underlying3 (hok 2 3 v2 rfl rfl) h2
    obtain ⟨z3, rfl, rfl, rfl, w3⟩ := open_int Tryz.underlying5 (hok 3 5 v3 rfl rfl) h3
    obtain ⟨n3, rfl, hn3⟩ := u8_of w3
    obtain ⟨a4, len4, cap4, rfl⟩ := okWide_slice Tryz.underlying22 (hok 4 22 v4 rfl rfl)
    obtain ⟨fuel4, hf4⟩ := h4
    obtain ⟨n5, rfl, rfl, rfl, w5⟩ := open_int Tryz.underlying3 (hok 5 3 v5 rfl rfl) h5
    obtain ⟨l0, rfl, r0, s0⟩ := open_bytes Tryz.underlying22 Tryz.underlying5 cellsU8 bytesU8 (show DataW.trod enc Tryz.prog W 0 (fun _ => true) true fuel0 22 [.slice a0 len0 cap0] = some (d0, p0) from hf0)
    replace s0 := s0 (fun n hn => by
      have := List.all_eq_true.1 hsz n (DataW.weights_mem_each (j := 0) rfl rfl n hn)
      simpa using this)
    obtain ⟨l1, rfl, r1, s1⟩ := open_bytes Tryz.underlying22 Tryz.underlying5 cellsU8 bytesU8 (show DataW.trod enc Tryz.prog W 0 (fun _ => true) true fuel1 22 [.slice a1 len1 cap1] = some (d1, p1) from hf1)
    replace s1 := s1 (fun n hn => by
      have := List.all_eq_true.1 hsz n (DataW.weights_mem_each (j := 1) rfl rfl n hn)
      simpa using this)
    obtain ⟨l4, rfl, r4, s4⟩ := open_bytes Tryz.underlying22 Tryz.underlying5 cellsU8 bytesU8 (show DataW.trod enc Tryz.prog W 0 (fun _ => true) true fuel4 22 [.slice a4 len4 cap4] = some (d4, p4) from hf4)
    replace s4 := s4 (fun n hn => by
      have := List.all_eq_true.1 hsz n (DataW.weights_mem_each (j := 4) rfl rfl n hn)
      simpa using this)
    exact signVerifies_walk a0 a1 a4 _ cap0 _ cap1 _ cap4 l0 l1 l4 n2 n3 n5 W rfl rfl rfl hn3 r0 r1 r4

theorem signVerifies_over : Rows.signVerifiesRow.holds Tryz.pinned (OpenSpec.ofChange Rows.signVerifiesSpec) :=
  OpenClaim.holds_of_wide 4 Tryz.f4 rfl rfl rfl rfl rfl rfl rfl ⟨rfl, rfl, rfl, rfl, rfl⟩ rfl rfl rfl rfl rfl (by kernel_rfl) Tryz.func4 (by kernel_rfl)
    (of_decide_eq_true (by kernel_rfl)) (by unfold Func.isWrapper; first | (rw [if_pos (by decide +kernel)]; kernel_rfl) | (rw [if_neg (by decide +kernel)]; exact ⟨rfl, rfl⟩))
    (fun os started H enc _ => signVerifies_lifted os started H enc)

/-- The card. -/
theorem signVerifies_proved : Rows.SignVerifiesCardSaid :=
  Claim7.holds_tied_plain_at .later [] [.data, .data, .data, .sentinel, .sentinel] true (true, "7003d9b50d55c6d2fed4347a7bade3dcb36ecb997c3259e6f03536ea5d78e684") true
    signVerifies_over (fun _ h => by cases h) (by kernel_rfl) (fun _ h => by cases h) signVerifies_row_tie rfl ⟨rfl, rfl⟩ (by kernel_rfl) rfl
    (fun f fn hf hfn => by
      obtain rfl : f = 4 := Option.some.inj ((show Tryz.prog.funcNamed "viaticum/viaticumlaw5.SignVerifies" = some 4 by kernel_rfl).symm.trans hf) |>.symm
      obtain rfl : fn = Tryz.f4 := (Option.some.inj (Tryz.func4.symm.trans hfn)).symm
      exact ⟨by kernel_rfl, fun j t ht => by
        rw [Tryz.params4] at ht
        have hm : t ∈ ([22, 22, 3, 5, 22, 3] : List TypeId) := by
          have := Array.mem_of_getElem? ht
          simpa using this
        have hall : (([22, 22, 3, 5, 22, 3] : List TypeId).all fun u => !Tryz.prog.wantsStandIn u) = true := by kernel_rfl
        have := List.all_eq_true.1 hall t hm
        exact (show Tryz.prog.wantsStandIn t = false by simpa using this)⟩)
    (by kernel_rfl)
#print axioms signVerifies_proved
end Go.Proofs.YtkelegjppnfoaaaGreatDoor
