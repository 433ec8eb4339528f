/-
  The statement 'DateForms': its arguments opened; the row; the card.
-/
import Derived.Test.YtbogjebipnmckaaDoorFi
import Derived.Test.YtbogjebipnmckaaDoorLl
import Derived.Test.YtbogjebipnmckaaDoorCards
import Derived.Test.YtbogjebipnmckaaDoorTie
import Derived.SevenTiedAt
namespace Go.Proofs.YtbogjebipnmckaaDoor
open Go.ChangeShapes Go.WideShapes Go.ChangeAt Go.RowKit

set_option maxRecDepth 100000 in
theorem dateForms_lifted (os : Os) (started : os.Started) (H : Type) (enc : TypeId × Value → H) :
    ReturnsInHanded {} Tryd.checked os 3 .any (fun w args => (Rows.dateFormsSpec.pre enc Tryd.prog Tryd.f3 [] false w args ∧ laidMetH Tryd.prog L8 w) ∧ sizedMet enc Tryd.prog Tryd.f3 (OpenSpec.ofChange Rows.dateFormsSpec) false w args) (Rows.dateFormsSpec.post enc Tryd.prog Tryd.f3 false true false false) := by
  refine lift_laid (C := Tryd.checked) own started (by kernel_rfl) Tryd.func3 rfl rfl (tb := 4) (by kernel_rfl) Tryd.underlying4 laidOut (by kernel_rfl) ?_
    (ChangeSpec.witness_shaped (enc := enc) (C := Tryd.checked) (os := os) (X := fun w _ => laidMetH Tryd.prog L8 w) false (World.doorLaid Tryd.prog 400 os) #[.string ⟨#[]⟩, .int .i64 0, .int .i64 0, .int .i64 0, .int .i64 0] 8 rfl (World.shaped_of_RefB (by kernel_rfl) (by kernel_rfl)) (by kernel_rfl) (by kernel_rfl) (by kernel_rfl) (door_met os _)) ?_
  · intro ds hds
    rw [Tryd.params3] at hds
    match ds, hds with
    | [d0, d1, d2, d3, d4], _ => exact ⟨rfl, rfl, rfl⟩
  · intro W args ds p hT hL
    have ht : Tb W := tb_of hL
    obtain ⟨hA, ⟨base, hok⟩, hsz⟩ := hT
    rw [Tryd.params3] at hA hok hsz
    obtain ⟨v0, v1, v2, v3, v4, d0, d1, d2, d3, d4, p0, p1, p2, p3, p4, rfl, rfl, rfl, h0, h1, h2, h3, h4⟩ := trodAll_five hA
    obtain ⟨s0, rfl, rfl, rfl, w0⟩ := Go.ChangeMaps.open_string Tryd.underlying9 (hok 0 9 v0 rfl rfl) h0
    obtain ⟨n1, rfl, rfl, rfl, w1⟩ := open_int Tryd.underlying2 (hok 1 2 v1 rfl rfl) h1
    obtain ⟨n2, rfl, rfl, rfl, w2⟩ := open_int Tryd.underlying3 (hok 2 3 v2 rfl rfl) h2
    obtain ⟨n3, rfl, rfl, rfl, w3⟩ := open_int Tryd.underlying3 (hok 3 3 v3 rfl rfl) h3
    obtain ⟨n4, rfl, rfl, rfl, w4⟩ := open_int Tryd.underlying3 (hok 4 3 v4 rfl rfl) h4
    exact dateForms_str s0 w0 n1 n2 n3 n4 W ht

theorem dateForms_over : Rows.dateFormsRow.holds Tryd.pinned (OpenSpec.ofChange Rows.dateFormsSpec) :=
  OpenClaim.holds_of_wide 3 Tryd.f3 rfl rfl rfl rfl rfl rfl rfl ⟨rfl, rfl, rfl, rfl, rfl⟩ rfl rfl rfl rfl rfl (by kernel_rfl) Tryd.func3 (by kernel_rfl)
    (of_decide_eq_true (by kernel_rfl)) (by unfold Func.isWrapper; first | (rw [if_pos (by decide +kernel)]; kernel_rfl) | (rw [if_neg (by decide +kernel)]; exact ⟨rfl, rfl⟩))
    (fun os started H enc _ => dateForms_lifted os started H enc)

/-- The card. -/
theorem dateForms_proved : Rows.DateFormsCardSaid :=
  Claim7.holds_tied_plain_at .later [] [.data, .data, .data] true (true, "728cd619d9f9e8db49ca0ee8002dc998bae1fde23659c9234e9f4a71a63c5a52") false
    dateForms_over (fun _ h => by cases h) (by kernel_rfl) (fun _ h => by cases h) dateForms_row_tie rfl ⟨rfl, rfl⟩ (by kernel_rfl) rfl
    (fun f fn hf hfn => by
      obtain rfl : f = 3 := Option.some.inj ((show Tryd.prog.funcNamed "viaticum/viaticumlaw8.DateForms" = some 3 by kernel_rfl).symm.trans hf) |>.symm
      obtain rfl : fn = Tryd.f3 := (Option.some.inj (Tryd.func3.symm.trans hfn)).symm
      exact ⟨by kernel_rfl, fun j t ht => by
        rw [Tryd.params3] at ht
        have hm : t ∈ ([9, 2, 3, 3, 3] : List TypeId) := by
          have := Array.mem_of_getElem? ht
          simpa using this
        have hall : (([9, 2, 3, 3, 3] : List TypeId).all fun u => !Tryd.prog.wantsStandIn u) = true := by kernel_rfl
        have := List.all_eq_true.1 hall t hm
        exact (show Tryd.prog.wantsStandIn t = false by simpa using this)⟩)
    (by kernel_rfl)
#print axioms dateForms_proved
end Go.Proofs.YtbogjebipnmckaaDoor
