/-
  Layer 8: the page's ParseDate, its parts joined.
-/
import Derived.Test.YtbogjebipnmckaaDoorFf
import Derived.Test.YtbogjebipnmckaaDoorFg
import Derived.Test.YtbogjebipnmckaaDoorFj
import Derived.Test.YtbogjebipnmckaaDoorFk
namespace Go.Proofs.YtbogjebipnmckaaDoor
open Go.RowKit
set_option linter.unusedSimpArgs false
set_option linter.unusedVariables false

set_option maxRecDepth 100000 in
set_option maxHeartbeats 1600000 in
theorem prS (l : List UInt8) (h20 : l.length < 20) (w : World) : Calls Tryd.prog 11 #[.string (strOf l)] w fun e w' => e = .returned (parV l) ∧ Below w.heap.size w w' := by
  have hL := fun W => run_lenS (P := Tryd.prog) (t := 9) (ty := 3) (by kernel_rfl) l W
  have HB := hide (Below.refl w.heap.size w)
  have HV : Hid (parV l = .tuple #[.int .i64 0, .bool false]) := hide (par_no_len (by omega) (by omega))
  have d : decide ((l.length : Int) < 20) = true := by simp; omega
  have d' : decide (l.length < 20) = true := by simp; omega
  go_enter Tryd.func11, Tryd.ntmps11
  go_wp2_with fail
  go_ret2
  rw [HV.out]
  exact ⟨rfl, HB.out⟩
set_option maxRecDepth 100000 in
set_option maxHeartbeats 1600000 in
theorem prW (l : List UInt8) (h20 : ¬ l.length < 20) (hl : l.length ≤ 9000000000000000000) (hD : ¬ DtF l) (w : World) : Calls Tryd.prog 11 #[.string (strOf l)] w fun e w' => e = .returned (parV l) ∧ Below w.heap.size w w' := by
  have hL := fun W => run_lenS (P := Tryd.prog) (t := 9) (ty := 3) (by kernel_rfl) l W
  have HB := hide (Below.refl w.heap.size w)
  have d : decide ((l.length : Int) < 20) = false := by simp; omega
  have d' : decide (l.length < 20) = false := by simp; omega
  have c19 := fun W => run_cutTo (P := Tryd.prog) (t := 9) (by kernel_rfl) l 19 (by omega) W
  rw [show ((19 : Nat) : Int) = 19 from rfl] at c19
  have l19 : (l.take 19).length ≤ 9223372036854775807 := by rw [List.length_take]; omega
  have hsf : shL (l.take 19) shape19 = false := by
    cases hs : shL (l.take 19) shape19
    · rfl
    · exact absurd (dtF_of_shaped hs) hD
  have HSH := hide (fun W => shaped_c _ shape19 false hsf l19 (by decide) W)
  unfold shape19 at HSH
  have HV : Hid (parV l = .tuple #[.int .i64 0, .bool false]) := hide (par_no fun hok => hD (dtF_of_ok hok))
  clear hsf hD l19
  generalize l.take 19 = l0 at c19 HSH
  go_enter Tryd.func11, Tryd.ntmps11
  go_wp2_with (first
    | (go_at_call 22; (with_reducible refine (HSH.out _).mono ?_); rintro e w' ⟨rfl, hb⟩; have HB := hide (HB.out.trans (hb.mono HB.out.size)); clear hb))
  go_ret2
  rw [HV.out]
  exact ⟨rfl, HB.out⟩
theorem parseR_any (l : List UInt8) (hl : l.length ≤ 1000) (w : World) : Calls Tryd.prog 11 #[.string (strOf l)] w fun e w' => e = .returned (parV l) ∧ Below w.heap.size w w' := by
  by_cases h20 : l.length < 20
  · exact prS l h20 w
  by_cases hD : DtF l
  · obtain ⟨y, m, dd, h, i, s, z, b1, b2, b3, b4, b5, b6, rfl⟩ := hD
    have hlen := dtx_length y m dd h i s z
    have hz : 1 ≤ z.length := by omega
    have hzl : z.length ≤ 9000000000000000000 := by omega
    by_cases hbad : dayB (y : Int) (m : Int) (dd : Int) = true ∧ h ≤ 23 ∧ i ≤ 59 ∧ s ≤ 59
    · obtain ⟨hk, hh, hi, hs⟩ := hbad
      by_cases hzz : z = [90]
      · exact prZ y m dd h i s z b1 b2 b3 b4 b5 b6 hz hzl hk hh hi hs hzz w
      · cases hp : shL z shapeP
        · cases hm : shL z shapeM
          · exact prN y m dd h i s z b1 b2 b3 b4 b5 b6 hz hzl hk hh hi hs hzz hp hm w
          · obtain ⟨oh, om, q1, q2, e⟩ := ofs_of_shaped (c := 45) (by decide) hm
            by_cases hob : 23 < oh ∨ 59 < om
            · exact prMa y m dd h i s z b1 b2 b3 b4 b5 b6 hz hzl oh om hob hk hh hi hs q1 q2 e w
            · exact prMb y m dd h i s z b1 b2 b3 b4 b5 b6 hz hzl oh om (fun x => hob (.inl x)) (fun x => hob (.inr x)) hk hh hi hs q1 q2 e w
        · obtain ⟨oh, om, q1, q2, e⟩ := ofs_of_shaped (c := 43) (by decide) hp
          by_cases hob : 23 < oh ∨ 59 < om
          · exact prPa y m dd h i s z b1 b2 b3 b4 b5 b6 hz hzl oh om hob hk hh hi hs q1 q2 e w
          · exact prPb y m dd h i s z b1 b2 b3 b4 b5 b6 hz hzl oh om (fun x => hob (.inl x)) (fun x => hob (.inr x)) hk hh hi hs q1 q2 e w
    · exact prA y m dd h i s z b1 b2 b3 b4 b5 b6 hz hzl hbad w
  · exact prW l h20 (by omega) hD w
theorem parR_is {l : List UInt8} {v : Value} (h : parV l = v) (hl : l.length ≤ 1000) (w : World) : Calls Tryd.prog 11 #[.string (strOf l)] w fun e w' => e = .returned v ∧ Below w.heap.size w w' := by
  subst h
  exact parseR_any l hl w
end Go.Proofs.YtbogjebipnmckaaDoor
