/-
 Joined of texts of mine, in build order: NH. Each says what it proves at its own head.
-/
import Derived.Test.YtnohmgpmmhlloaaGreatDoorCards
import Derived.Test.YtnohmgpmmhlloaaGreatDoorTie
import Derived.SevenTiedAt
import Derived.Test.YtnohmgpmmhlloaaGreatDoorPk
set_option linter.unusedSimpArgs false
set_option linter.unusedVariables false
set_option maxRecDepth 100000
set_option maxHeartbeats 25600000

namespace Go.Proofs.YtnohmgpmmhlloaaGreatDoor
open Go.ChangeShapes Go.WideShapes Go.ChangeAt Go.RowKit

theorem chainIssues_lifted (os : Os) (started : os.Started) (H : Type) (enc : TypeId × Value → H) :
  ReturnsInHanded {} Tryz.checked os 4 .any (fun w args => (Rows.chainIssuesSpec.pre enc Tryz.prog Tryz.f4 [] false w args ∧ laidMetH Tryz.prog LL w) ∧ sizedMet enc Tryz.prog Tryz.f4 (OpenSpec.ofChange Rows.chainIssuesSpec) false w args) (Rows.chainIssuesSpec.post enc Tryz.prog Tryz.f4 false true false false) := by
 refine lift_laid (C := Tryz.checked) own started (by kernel_rfl) Tryz.func4 rfl rfl (tb := 4) (by kernel_rfl) Tryz.underlying4 laidOut (by kernel_rfl) (l := LL) ?_
  (ChangeSpec.witness_shaped (enc := enc) (C := Tryz.checked) (os := os) (X := fun w _ => laidMetH Tryz.prog LL w) false (World.doorLaid Tryz.prog 400 os) #[.slice none 0 0, .slice none 0 0, .slice none 0 0, .slice none 0 0, .bool false, .bool false] 8 rfl (World.shaped_of_RefB (by kernel_rfl) (by kernel_rfl)) (by kernel_rfl) (by kernel_rfl) (by kernel_rfl) (door_met os _)) ?_
 ·intro ds hds
  rw [Tryz.params4] at hds
  match ds, hds with
  | [d0, d1, d2, d3, d4, d5], _ => exact ⟨rfl, rfl, rfl⟩
 ·intro W args ds p hT hL
  obtain ⟨hA, ⟨base, hok⟩, hsz⟩ := hT
  rw [Tryz.params4] at hA hok hsz
  obtain ⟨v0, v1, v2, v3, v4, v5, d0, d1, d2, d3, d4, d5, p0, p1, p2, p3, p4, p5, rfl, rfl, rfl, h0, h1, h2, h3, h4, h5⟩ := trodAll_six hA
  obtain ⟨a0, len0, cap0, rfl⟩ := okWide_slice Tryz.underlying22 (hok 0 22 v0 rfl rfl)
  obtain ⟨fuel0, hf0⟩ := h0
  obtain ⟨a1, len1, cap1, rfl⟩ := okWide_slice Tryz.underlying22 (hok 1 22 v1 rfl rfl)
  obtain ⟨fuel1, hf1⟩ := h1
  obtain ⟨a2, len2, cap2, rfl⟩ := okWide_slice Tryz.underlying22 (hok 2 22 v2 rfl rfl)
  obtain ⟨fuel2, hf2⟩ := h2
  obtain ⟨a3, len3, cap3, rfl⟩ := okWide_slice Tryz.underlying22 (hok 3 22 v3 rfl rfl)
  obtain ⟨fuel3, hf3⟩ := h3
  obtain ⟨b4, rfl, rfl, rfl⟩ := open_bool Tryz.underlying4 (hok 4 4 v4 rfl rfl) h4
  obtain ⟨b5, rfl, rfl, rfl⟩ := open_bool Tryz.underlying4 (hok 5 4 v5 rfl rfl) h5
  obtain ⟨l0, rfl, r0, s0⟩ := open_bytes Tryz.underlying22 Tryz.underlying5 cellsU8 bytesU8 (show DataW.trod enc Tryz.prog W 0 (fun _ => true) true fuel0 22 [.slice a0 len0 cap0] = some (d0, p0) from hf0)
  replace s0 := s0 (fun n hn => by
   have := List.all_eq_true.1 hsz n (DataW.weights_mem_each (j := 0) rfl rfl n hn)
   simpa using this)
  obtain ⟨l1, rfl, r1, s1⟩ := open_bytes Tryz.underlying22 Tryz.underlying5 cellsU8 bytesU8 (show DataW.trod enc Tryz.prog W 0 (fun _ => true) true fuel1 22 [.slice a1 len1 cap1] = some (d1, p1) from hf1)
  replace s1 := s1 (fun n hn => by
   have := List.all_eq_true.1 hsz n (DataW.weights_mem_each (j := 1) rfl rfl n hn)
   simpa using this)
  obtain ⟨l2, rfl, r2, s2⟩ := open_bytes Tryz.underlying22 Tryz.underlying5 cellsU8 bytesU8 (show DataW.trod enc Tryz.prog W 0 (fun _ => true) true fuel2 22 [.slice a2 len2 cap2] = some (d2, p2) from hf2)
  replace s2 := s2 (fun n hn => by
   have := List.all_eq_true.1 hsz n (DataW.weights_mem_each (j := 2) rfl rfl n hn)
   simpa using this)
  obtain ⟨l3, rfl, r3, s3⟩ := open_bytes Tryz.underlying22 Tryz.underlying5 cellsU8 bytesU8 (show DataW.trod enc Tryz.prog W 0 (fun _ => true) true fuel3 22 [.slice a3 len3 cap3] = some (d3, p3) from hf3)
  replace s3 := s3 (fun n hn => by
   have := List.all_eq_true.1 hsz n (DataW.weights_mem_each (j := 3) rfl rfl n hn)
   simpa using this)
  exact chainIssues_walk a0 a1 a2 a3 _ _ _ _ cap0 cap1 cap2 cap3 l0 l1 l2 l3 b4 b5 W rfl rfl rfl rfl r0 r1 r2 r3

theorem chainIssues_over : Rows.chainIssuesRow.holds Tryz.pinned (OpenSpec.ofChange Rows.chainIssuesSpec) :=
 OpenClaim.holds_of_wide 4 Tryz.f4 rfl rfl rfl rfl rfl rfl rfl ⟨rfl, rfl, rfl, rfl, rfl⟩ rfl rfl rfl rfl rfl (by kernel_rfl) Tryz.func4 (by kernel_rfl)
  (of_decide_eq_true (by kernel_rfl)) (by unfold Func.isWrapper; first | (rw [if_pos (by decide +kernel)]; kernel_rfl) | (rw [if_neg (by decide +kernel)]; exact ⟨rfl, rfl⟩))
  (fun os started H enc _ => chainIssues_lifted os started H enc)

theorem chainIssues_proved : Rows.ChainIssuesCardSaid :=
 Claim7.holds_tied_plain_at .later [] [.data, .data, .data, .sentinel, .sentinel] true (true, "5307a9007335d7c83d3ec3980db5ef60e9a38f7de7da356abba6370d761985cc") true
  chainIssues_over (fun _ h => by cases h) (by kernel_rfl) (fun _ h => by cases h) chainIssues_row_tie rfl ⟨rfl, rfl⟩ (by kernel_rfl) rfl
  (fun f fn hf hfn => by
   obtain rfl : f = 4 := Option.some.inj ((show Tryz.prog.funcNamed "viaticum/viaticumlaw24.ChainIssues" = some 4 by kernel_rfl).symm.trans hf) |>.symm
   obtain rfl : fn = Tryz.f4 := (Option.some.inj (Tryz.func4.symm.trans hfn)).symm
   exact ⟨by kernel_rfl, fun j t ht => by
    rw [Tryz.params4] at ht
    have hm : t ∈ ([22, 22, 22, 22, 4, 4] : List TypeId) := by
     have := Array.mem_of_getElem? ht
     simpa using this
    have hall : (([22, 22, 22, 22, 4, 4] : List TypeId).all fun u => !Tryz.prog.wantsStandIn u) = true := by kernel_rfl
    have := List.all_eq_true.1 hall t hm
    exact (show Tryz.prog.wantsStandIn t = false by simpa using this)⟩)
  (by kernel_rfl)
#print axioms chainIssues_proved
end Go.Proofs.YtnohmgpmmhlloaaGreatDoor
