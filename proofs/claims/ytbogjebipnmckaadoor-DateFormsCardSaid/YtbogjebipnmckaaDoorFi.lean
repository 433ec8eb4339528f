/-
  Layer 8: the walk of DateForms.
-/
import Derived.Test.YtbogjebipnmckaaDoorFh
import Derived.Test.YtbogjebipnmckaaDoorLift
namespace Go.Proofs.YtbogjebipnmckaaDoor
open Go.RowKit
set_option linter.unusedSimpArgs false
set_option linter.unusedVariables false

theorem parV_form (l : List UInt8) : ∃ (n : Int) (b : Bool), parV l = .tuple #[.int .i64 n, .bool b] := by
  unfold parV
  split
  · exact ⟨_, _, rfl⟩
  · exact ⟨_, _, rfl⟩
theorem dayV_form (y m d : Int) : ∃ (n : Int) (b : Bool), dayV y m d = .tuple #[.int .i64 n, .bool b] := by
  unfold dayV
  split
  · exact ⟨_, _, rfl⟩
  · exact ⟨_, _, rfl⟩
set_option maxRecDepth 100000 in
set_option maxHeartbeats 1600000 in
theorem dateForms_walk (l : List UInt8) (hl : l.length ≤ 9223372036854775807) (n a b c : Int) (w : World) (ht : Tb w) : Calls Tryd.prog 3 #[.string (strOf l), .int .i64 n, .int .i64 a, .int .i64 b, .int .i64 c] w fun e w' => e = .returned (.bool true) ∧ Below w.heap.size w w' := by
  have hL := fun W => run_lenS (P := Tryd.prog) (t := 9) (ty := 3) (by kernel_rfl) l W
  have HW := hide (fun W h => awake_any W h)
  have HT := hide ht
  have HB := hide (Below.refl w.heap.size w)
  clear ht
  by_cases h3 : 300 < l.length
  · have d : decide (300 < (l.length : Int)) = true := by simp; omega
    have d' : decide (300 < l.length) = true := by simp; omega
    go_enter Tryd.func3, Tryd.ntmps3
    go_wp2_with (first
      | (go_at_call 9; (with_reducible refine (HW.out _ HT.out).mono ?_); rintro e w' ⟨rfl, hb⟩; have HB := hide (HB.out.trans (hb.mono HB.out.size)); clear hb))
    go_ret
    exact ⟨rfl, HB.out⟩
  have d : decide (300 < (l.length : Int)) = false := by simp; omega
  have d' : decide (300 < l.length) = false := by simp; omega
  obtain ⟨pn, pb, hp⟩ := parV_form l
  obtain ⟨vn, vb, hv⟩ := dayV_form a b c
  have HP := hide (fun W => parseS_is hp W)
  have HQ := hide (fun W => parR_is hp (by omega) W)
  have HD := hide (fun W => days_is hv W)
  have HE := hide (fun W => dayR_is hv W)
  have HR := hide (fun W h => printS_is (n := n) rfl W h)
  have HS := hide (fun W => printR_any n W)
  generalize printT n = pt at HR HS
  have HL := hide (fun W => leap_any a W)
  have HM := hide (fun W => leapR_any a W)
  generalize lpY a = lp at HL HM
  clear hp hv h3
  go_enter Tryd.func3, Tryd.ntmps3
  go_wp2_with (first
    | (go_at_call 10; (with_reducible refine (HP.out _).mono ?_); rintro e w' ⟨rfl, hb⟩; have HB := hide (HB.out.trans (hb.mono HB.out.size)); have HT := hide (HT.out.on hb); clear hb)
    | (go_at_call 11; (with_reducible refine (HQ.out _).mono ?_); rintro e w' ⟨rfl, hb⟩; have HB := hide (HB.out.trans (hb.mono HB.out.size)); have HT := hide (HT.out.on hb); clear hb)
    | (go_at_call 12; (with_reducible refine (HD.out _).mono ?_); rintro e w' ⟨rfl, rfl⟩)
    | (go_at_call 13; (with_reducible refine (HE.out _).mono ?_); rintro e w' ⟨rfl, rfl⟩)
    | (go_at_call 14; (with_reducible refine (HR.out _ HT.out).mono ?_); rintro e w' ⟨rfl, hb⟩; have HB := hide (HB.out.trans (hb.mono HB.out.size)); have HT := hide (HT.out.on hb); clear hb)
    | (go_at_call 15; (with_reducible refine (HS.out _).mono ?_); rintro e w' ⟨rfl, hb⟩; have HB := hide (HB.out.trans (hb.mono HB.out.size)); have HT := hide (HT.out.on hb); clear hb)
    | (go_at_call 16; (with_reducible refine (HL.out _).mono ?_); rintro e w' ⟨rfl, rfl⟩)
    | (go_at_call 17; (with_reducible refine (HM.out _).mono ?_); rintro e w' ⟨rfl, rfl⟩)
    | (go_at_call 9; (with_reducible refine (HW.out _ HT.out).mono ?_); rintro e w' ⟨rfl, hb⟩; have HB := hide (HB.out.trans (hb.mono HB.out.size)); clear hb))
  go_ret
  exact ⟨rfl, HB.out⟩
theorem dateForms_str (s : ByteArray) (hs : s.size ≤ maxLen) (n a b c : Int) (w : World) (ht : Tb w) : Calls Tryd.prog 3 #[.string s, .int .i64 n, .int .i64 a, .int .i64 b, .int .i64 c] w fun e w' => e = .returned (.bool true) ∧ Below w.heap.size w w' := by
  have h := dateForms_walk s.data.toList (by rw [Array.length_toList]; unfold maxLen at hs; exact hs) n a b c w ht
  have es : (⟨s.data.toList.toArray⟩ : ByteArray) = s := by cases s; rfl
  rw [strOf_eq, es] at h
  exact h
section
open Go.ChangeShapes Go.WideShapes Go.ChangeAt
variable {H : Type} {enc : TypeId × Value → H} {P : Program} {w : World} {base : Nat} {spare : Nat → Bool} {held : Bool}
theorem trodAll_five {t0 t1 t2 t3 t4 : TypeId} {args : Array Value} {ds : List (DataW H)} {ps : List MemPlace} (h : DataW.TrodAll enc P w base spare held [t0, t1, t2, t3, t4] args.toList ds ps) :
    ∃ v0 v1 v2 v3 v4 d0 d1 d2 d3 d4 p0 p1 p2 p3 p4, args = #[v0, v1, v2, v3, v4] ∧ ds = [d0, d1, d2, d3, d4] ∧ ps = p0 ++ p1 ++ p2 ++ p3 ++ p4 ∧ DataW.Trod enc P w base spare held t0 v0 d0 p0 ∧ DataW.Trod enc P w base spare held t1 v1 d1 p1 ∧
      DataW.Trod enc P w base spare held t2 v2 d2 p2 ∧ DataW.Trod enc P w base spare held t3 v3 d3 p3 ∧ DataW.Trod enc P w base spare held t4 v4 d4 p4 := by
  obtain ⟨v0, vs, d0, ds', p0, q, hargs, rfl, rfl, h0, hr⟩ := trodAll_cons h
  obtain ⟨v1, vs1, d1, ds1, p1, q1, rfl, rfl, rfl, h1, hr1⟩ := trodAll_cons hr
  obtain ⟨v2, vs2, d2, ds2, p2, q2, rfl, rfl, rfl, h2, hr2⟩ := trodAll_cons hr1
  obtain ⟨v3, vs3, d3, ds3, p3, q3, rfl, rfl, rfl, h3, hr3⟩ := trodAll_cons hr2
  obtain ⟨v4, vs4, d4, ds4, p4, q4, rfl, rfl, rfl, h4, hr4⟩ := trodAll_cons hr3
  obtain ⟨rfl, rfl, rfl⟩ := trodAll_nil hr4
  exact ⟨v0, v1, v2, v3, v4, d0, d1, d2, d3, d4, p0, p1, p2, p3, p4, by cases args; simp_all, rfl, by simp, h0, h1, h2, h3, h4⟩
end
end Go.Proofs.YtbogjebipnmckaaDoor
