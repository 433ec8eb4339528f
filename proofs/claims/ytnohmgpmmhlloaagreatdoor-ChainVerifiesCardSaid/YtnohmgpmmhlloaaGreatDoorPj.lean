/-
 Joined of texts of mine, in build order: C6, C8, C9, D1, Lift, Opg, Oq, D2, Lm, D3. Each says what it proves at its own head.
-/
import Derived.Deep.DeepCutAuto
import Derived.ProofKit
import Derived.OpenShut
import Derived.SizedLaws
import Derived.Carry
import Derived.Deep.Fields
import Derived.Deep.Slices
import Derived.ShutString
import Derived.Test.YtnohmgpmmhlloaaGreatDoorRows
import Derived.LaidMore
import Derived.Stop.Joined
import Derived.Test.YtnohmgpmmhlloaaGreatDoorCards
import Derived.Test.YtnohmgpmmhlloaaGreatDoorTie
import Derived.SevenTiedAt
import Derived.Test.YtnohmgpmmhlloaaGreatDoorPi
set_option linter.unusedSimpArgs false
set_option linter.unusedVariables false
set_option maxRecDepth 100000
set_option maxHeartbeats 25600000

namespace Go.Proofs.YtnohmgpmmhlloaaGreatDoor
open Go.RowKit
set_option linter.unusedSimpArgs false
theorem blkOK_eq (y : List UInt8) (f : Bool) (l1 l2 l3 l4 l5 : List UInt8) : blkOK y f ⟨l1, l2, l3, l4, l5⟩ = (verL y (l1 ++ (l5 ++ l2)) l3 && (decide (l4.length + l5.length = 0) || (!f && verL l4 (l1 ++ y) l5))) := rfl
theorem right_core (A1 A2 A3 A4 A5 : Option Addr) (n1 n2 n3 n4 n5 c1 c2 c3 c4 c5 : Nat) (l1 l2 l3 l4 l5 : List UInt8) (Ab : Option Addr) (nb cb : Nat) (yb : List UInt8) (fs : Bool) (w : World) (hl1 : l1.length = n1) (hn1 : n1 ≤ 60000) (hr1 : Rd w (.slice A1 n1 c1) 1 n1 (bvs l1)) (hl2 : l2.length = n2) (hn2 : n2 ≤ 900) (hr2 : Rd w (.slice A2 n2 c2) 1 n2 (bvs l2)) (hl3 : l3.length = n3) (hn3 : n3 ≤ 900) (hr3 : Rd w (.slice A3 n3 c3) 1 n3 (bvs l3)) (hl4 : l4.length = n4) (hn4 : n4 ≤ 900) (hr4 : Rd w (.slice A4 n4 c4) 1 n4 (bvs l4)) (hl5 : l5.length = n5) (hn5 : n5 ≤ 900) (hr5 : Rd w (.slice A5 n5 c5) 1 n5 (bvs l5)) (hlb : yb.length = nb) (hnb : nb ≤ 900) (hrb : Rd w (.slice Ab nb cb) 1 nb (bvs yb)) :
  Calls Tryz.prog 70 #[.agg #[.slice A1 n1 c1, .slice A2 n2 c2, .slice A3 n3 c3, .slice A4 n4 c4, .slice A5 n5 c5], .slice Ab nb cb, .bool fs] w fun e w' => e = .returned (.bool (blkOK yb fs ⟨l1, l2, l3, l4, l5⟩)) ∧ Below w.heap.size w w' := by
 have HS := hide ((St.init w NoB).alloc #[.slice A1 n1 c1, .slice A2 n2 c2, .slice A3 n3 c3, .slice A4 n4 c4, .slice A5 n5 c5] 32)
 have HL1 := hide hl1
 have HR1 := hide hr1
 have HL2 := hide hl2
 have HR2 := hide hr2
 have HL3 := hide hl3
 have HR3 := hide hr3
 have HL4 := hide hl4
 have HR4 := hide hr4
 have HL5 := hide hl5
 have HR5 := hide hr5
 have HLB := hide hlb
 have HRB := hide hrb
 have HM := hide (len_add3 hl1 hl5 hl2)
 have HM2 := hide (len_add hl1 hlb)
 have hbk := blkOK_eq yb fs l1 l2 l3 l4 l5
 clear hl1 hr1 hl2 hr2 hl3 hr3 hl4 hr4 hl5 hr5 hlb hrb
 cases b1 : verL yb (l1 ++ (l5 ++ l2)) l3 with
 | false =>
  rw [b1, Bool.false_and] at hbk
  rw [hbk]
  have B1 := hide b1
  clear b1 hbk
  go_enter Tryz.func70, Tryz.ntmps70
  go_upto_region 1 with fail
  generalize World.alloc w _ = wb at HS ⊢
  refine wp_region_T [(0, 1), (1, 0), (3, 1), (4, 0), (2, 2), (5, 2), (6, 1)] (by kernel_rfl) (by kernel_rfl) (fun _ _ _ _ h => h) ?_
  have HS := hide HS.out.drew
  generalize wb.drew = wc at HS ⊢
  have t1 : _ = some (Value.slice A1 n1 c1) := HS.out.cell 0 rfl 0
  have t2 : _ = some (Value.slice A2 n2 c2) := HS.out.cell 0 rfl 1
  have t3 : _ = some (Value.slice A3 n3 c3) := HS.out.cell 0 rfl 2
  have t4 : _ = some (Value.slice A4 n4 c4) := HS.out.cell 0 rfl 3
  have t5 : _ = some (Value.slice A5 n5 c5) := HS.out.cell 0 rfl 4
  have M0 := True.intro
  go_wp2_with (first
   | (clear M1; go_at_call 12; (with_reducible refine (verify_any _ _ _ _ _ _ _ _ _ _ _ _ _ HLB.out HM.out HL3.out (by omega) (by omega) (HRB.out.below HS.out.below) (HS.out.rd 0 rfl) (HR3.out.below HS.out.below)).mono ?_); rintro e wv ⟨rfl, hb⟩; rw [B1.out]; have HS := hide (HS.out.call hb); have t1 : _ = some (Value.slice A1 n1 c1) := HS.out.cell 1 rfl 0; have t4 : _ = some (Value.slice A4 n4 c4) := HS.out.cell 1 rfl 3; have t5 : _ = some (Value.slice A5 n5 c5) := HS.out.cell 1 rfl 4; have M2 := True.intro)
   | (clear M0; go_at_call 73; (with_reducible refine (message_core _ _ _ _ _ _ _ _ _ _ _ _ _ _ _ _ _ _ _ _ _ HL1.out (by omega) (HR1.out.below HS.out.below) HL2.out (by omega) (HR2.out.below HS.out.below) HL3.out (by omega) (HR3.out.below HS.out.below) HL4.out (by omega) (HR4.out.below HS.out.below) HL5.out (by omega) (HR5.out.below HS.out.below)).mono ?_); rintro e wy ⟨Bm, dm, rfl, hb, ho⟩; have HS := hide (HS.out.row hb ho); clear ho; have M1 := True.intro)
   | (refine wpT_nil ?_)   | ((with_reducible refine fromT_refl ?_); (try simp only [Act.put, nq1, nq2, nq3, nq4, nq5, nq6]))   | ((with_reducible refine fromT_mk (by assumption) ?_); (try simp only [Act.put, nq1, nq2, nq3, nq4, nq5, nq6]))   | (refine wpT_pure (v := ?_) rfl rfl ?_ ?_; rotate_left; (intro wx; go_simp; try go_bits) <;> (with_reducible rfl); (try simp only [Act.put, nq1, nq2, nq3, nq4, nq5, nq6]))   | (refine wpT_load (v := ?_) rfl rfl rfl ?_ ?_; rotate_left; (go_simp; try go_bits) <;> (with_reducible rfl); (try simp only [Act.put, nq1, nq2, nq3, nq4, nq5, nq6]))   | (refine wpT_read (v := ?_) rfl rfl ?_ ?_; rotate_left; (intro wx hx; go_simp; try go_bits) <;> (with_reducible rfl); (try simp only [Act.put, nq1, nq2, nq3, nq4, nq5, nq6]))   | (refine wpT_call rfl rfl ?_; intro K hK)   | (refine wpT_late rfl rfl ?_; intro K hK)   | (refine wpT_any rfl rfl ?_; intro K hK)   | (refine wpT_skip rfl rfl ?_; (try simp only [Act.put, nq1, nq2, nq3, nq4, nq5, nq6])))
  go_ret
  exact ⟨rfl, HS.out.below⟩
 | true =>
  rw [b1, Bool.true_and] at hbk
  have B1 := hide b1
  clear b1
  by_cases h0 : n4 + n5 = 0
  ·rw [decide_eq_true (show l4.length + l5.length = 0 by rw [HL4.out, HL5.out]; exact h0), Bool.true_or] at hbk
   rw [hbk]
   clear hbk
   have d0 : (((n4 : Int) + (n5 : Int)) == 0) = true := by simp; omega
   have d0' : decide ((n4 : Int) + (n5 : Int) = 0) = true := by simp; omega
   go_enter Tryz.func70, Tryz.ntmps70
   go_upto_region 1 with fail
   generalize World.alloc w _ = wb at HS ⊢
   refine wp_region_T [(0, 1), (1, 0), (3, 1), (4, 0), (2, 2), (5, 2), (6, 1)] (by kernel_rfl) (by kernel_rfl) (fun _ _ _ _ h => h) ?_
   have HS := hide HS.out.drew
   generalize wb.drew = wc at HS ⊢
   have t1 : _ = some (Value.slice A1 n1 c1) := HS.out.cell 0 rfl 0
   have t2 : _ = some (Value.slice A2 n2 c2) := HS.out.cell 0 rfl 1
   have t3 : _ = some (Value.slice A3 n3 c3) := HS.out.cell 0 rfl 2
   have t4 : _ = some (Value.slice A4 n4 c4) := HS.out.cell 0 rfl 3
   have t5 : _ = some (Value.slice A5 n5 c5) := HS.out.cell 0 rfl 4
   have M0 := True.intro
   go_wp2_with (first
   | (clear M1; go_at_call 12; (with_reducible refine (verify_any _ _ _ _ _ _ _ _ _ _ _ _ _ HLB.out HM.out HL3.out (by omega) (by omega) (HRB.out.below HS.out.below) (HS.out.rd 0 rfl) (HR3.out.below HS.out.below)).mono ?_); rintro e wv ⟨rfl, hb⟩; rw [B1.out]; have HS := hide (HS.out.call hb); have t1 : _ = some (Value.slice A1 n1 c1) := HS.out.cell 1 rfl 0; have t4 : _ = some (Value.slice A4 n4 c4) := HS.out.cell 1 rfl 3; have t5 : _ = some (Value.slice A5 n5 c5) := HS.out.cell 1 rfl 4; have M2 := True.intro)
   | (clear M0; go_at_call 73; (with_reducible refine (message_core _ _ _ _ _ _ _ _ _ _ _ _ _ _ _ _ _ _ _ _ _ HL1.out (by omega) (HR1.out.below HS.out.below) HL2.out (by omega) (HR2.out.below HS.out.below) HL3.out (by omega) (HR3.out.below HS.out.below) HL4.out (by omega) (HR4.out.below HS.out.below) HL5.out (by omega) (HR5.out.below HS.out.below)).mono ?_); rintro e wy ⟨Bm, dm, rfl, hb, ho⟩; have HS := hide (HS.out.row hb ho); clear ho; have M1 := True.intro)
   | (refine wpT_nil ?_)   | ((with_reducible refine fromT_refl ?_); (try simp only [Act.put, nq1, nq2, nq3, nq4, nq5, nq6]))   | ((with_reducible refine fromT_mk (by assumption) ?_); (try simp only [Act.put, nq1, nq2, nq3, nq4, nq5, nq6]))   | (refine wpT_pure (v := ?_) rfl rfl ?_ ?_; rotate_left; (intro wx; go_simp; try go_bits) <;> (with_reducible rfl); (try simp only [Act.put, nq1, nq2, nq3, nq4, nq5, nq6]))   | (refine wpT_load (v := ?_) rfl rfl rfl ?_ ?_; rotate_left; (go_simp; try go_bits) <;> (with_reducible rfl); (try simp only [Act.put, nq1, nq2, nq3, nq4, nq5, nq6]))   | (refine wpT_read (v := ?_) rfl rfl ?_ ?_; rotate_left; (intro wx hx; go_simp; try go_bits) <;> (with_reducible rfl); (try simp only [Act.put, nq1, nq2, nq3, nq4, nq5, nq6]))   | (refine wpT_call rfl rfl ?_; intro K hK)   | (refine wpT_late rfl rfl ?_; intro K hK)   | (refine wpT_any rfl rfl ?_; intro K hK)   | (refine wpT_skip rfl rfl ?_; (try simp only [Act.put, nq1, nq2, nq3, nq4, nq5, nq6])))
   go_ret
   exact ⟨rfl, HS.out.below⟩
  ·rw [decide_eq_false (show ¬ l4.length + l5.length = 0 by rw [HL4.out, HL5.out]; exact h0), Bool.false_or] at hbk
   have d0 : (((n4 : Int) + (n5 : Int)) == 0) = false := by simp; omega
   have d0' : decide ((n4 : Int) + (n5 : Int) = 0) = false := by simp; omega
   cases fs with
   | true =>
    rw [hbk]
    clear hbk
    go_enter Tryz.func70, Tryz.ntmps70
    go_upto_region 1 with fail
    generalize World.alloc w _ = wb at HS ⊢
    refine wp_region_T [(0, 1), (1, 0), (3, 1), (4, 0), (2, 2), (5, 2), (6, 1)] (by kernel_rfl) (by kernel_rfl) (fun _ _ _ _ h => h) ?_
    have HS := hide HS.out.drew
    generalize wb.drew = wc at HS ⊢
    have t1 : _ = some (Value.slice A1 n1 c1) := HS.out.cell 0 rfl 0
    have t2 : _ = some (Value.slice A2 n2 c2) := HS.out.cell 0 rfl 1
    have t3 : _ = some (Value.slice A3 n3 c3) := HS.out.cell 0 rfl 2
    have t4 : _ = some (Value.slice A4 n4 c4) := HS.out.cell 0 rfl 3
    have t5 : _ = some (Value.slice A5 n5 c5) := HS.out.cell 0 rfl 4
    have M0 := True.intro
    go_upto_region 5 with (first
   | (clear M1; go_at_call 12; (with_reducible refine (verify_any _ _ _ _ _ _ _ _ _ _ _ _ _ HLB.out HM.out HL3.out (by omega) (by omega) (HRB.out.below HS.out.below) (HS.out.rd 0 rfl) (HR3.out.below HS.out.below)).mono ?_); rintro e wv ⟨rfl, hb⟩; rw [B1.out]; have HS := hide (HS.out.call hb); have t1 : _ = some (Value.slice A1 n1 c1) := HS.out.cell 1 rfl 0; have t4 : _ = some (Value.slice A4 n4 c4) := HS.out.cell 1 rfl 3; have t5 : _ = some (Value.slice A5 n5 c5) := HS.out.cell 1 rfl 4; have M2 := True.intro)
   | (clear M0; go_at_call 73; (with_reducible refine (message_core _ _ _ _ _ _ _ _ _ _ _ _ _ _ _ _ _ _ _ _ _ HL1.out (by omega) (HR1.out.below HS.out.below) HL2.out (by omega) (HR2.out.below HS.out.below) HL3.out (by omega) (HR3.out.below HS.out.below) HL4.out (by omega) (HR4.out.below HS.out.below) HL5.out (by omega) (HR5.out.below HS.out.below)).mono ?_); rintro e wy ⟨Bm, dm, rfl, hb, ho⟩; have HS := hide (HS.out.row hb ho); clear ho; have M1 := True.intro)
   | (refine wpT_nil ?_)   | ((with_reducible refine fromT_refl ?_); (try simp only [Act.put, nq1, nq2, nq3, nq4, nq5, nq6]))   | ((with_reducible refine fromT_mk (by assumption) ?_); (try simp only [Act.put, nq1, nq2, nq3, nq4, nq5, nq6]))   | (refine wpT_pure (v := ?_) rfl rfl ?_ ?_; rotate_left; (intro wx; go_simp; try go_bits) <;> (with_reducible rfl); (try simp only [Act.put, nq1, nq2, nq3, nq4, nq5, nq6]))   | (refine wpT_load (v := ?_) rfl rfl rfl ?_ ?_; rotate_left; (go_simp; try go_bits) <;> (with_reducible rfl); (try simp only [Act.put, nq1, nq2, nq3, nq4, nq5, nq6]))   | (refine wpT_read (v := ?_) rfl rfl ?_ ?_; rotate_left; (intro wx hx; go_simp; try go_bits) <;> (with_reducible rfl); (try simp only [Act.put, nq1, nq2, nq3, nq4, nq5, nq6]))   | (refine wpT_call rfl rfl ?_; intro K hK)   | (refine wpT_late rfl rfl ?_; intro K hK)   | (refine wpT_any rfl rfl ?_; intro K hK)   | (refine wpT_skip rfl rfl ?_; (try simp only [Act.put, nq1, nq2, nq3, nq4, nq5, nq6])))
    refine wp_region_T [(0, 1), (1, 1), (2, 1), (3, 1), (4, 0), (5, 1), (6, 0), (7, 1), (10, 1), (11, 0), (8, 2), (9, 2), (12, 2), (13, 1), (14, 1)] (by kernel_rfl) (by kernel_rfl) (fun _ _ _ _ h => h) ?_
    have HS := hide HS.out.drew
    go_wp2_with (first | (refine wpT_nil ?_)   | ((with_reducible refine fromT_refl ?_); (try simp only [Act.put, nq1, nq2, nq3, nq4, nq5, nq6]))   | ((with_reducible refine fromT_mk (by assumption) ?_); (try simp only [Act.put, nq1, nq2, nq3, nq4, nq5, nq6]))   | (refine wpT_pure (v := ?_) rfl rfl ?_ ?_; rotate_left; (intro wx; go_simp; try go_bits) <;> (with_reducible rfl); (try simp only [Act.put, nq1, nq2, nq3, nq4, nq5, nq6]))   | (refine wpT_load (v := ?_) rfl rfl rfl ?_ ?_; rotate_left; (go_simp; try go_bits) <;> (with_reducible rfl); (try simp only [Act.put, nq1, nq2, nq3, nq4, nq5, nq6]))   | (refine wpT_read (v := ?_) rfl rfl ?_ ?_; rotate_left; (intro wx hx; go_simp; try go_bits) <;> (with_reducible rfl); (try simp only [Act.put, nq1, nq2, nq3, nq4, nq5, nq6]))   | (refine wpT_call rfl rfl ?_; intro K hK)   | (refine wpT_late rfl rfl ?_; intro K hK)   | (refine wpT_any rfl rfl ?_; intro K hK)   | (refine wpT_skip rfl rfl ?_; (try simp only [Act.put, nq1, nq2, nq3, nq4, nq5, nq6])))
    go_ret
    exact ⟨rfl, HS.out.below⟩
   | false =>
    rw [hbk]
    clear hbk
    obtain ⟨b2, hb2⟩ : ∃ b, b = verL l4 (l1 ++ yb) l5 := ⟨_, rfl⟩
    rw [← hb2]
    have B2 := hide hb2.symm
    clear hb2
    go_enter Tryz.func70, Tryz.ntmps70
    go_upto_region 1 with fail
    generalize World.alloc w _ = wb at HS ⊢
    refine wp_region_T [(0, 1), (1, 0), (3, 1), (4, 0), (2, 2), (5, 2), (6, 1)] (by kernel_rfl) (by kernel_rfl) (fun _ _ _ _ h => h) ?_
    have HS := hide HS.out.drew
    generalize wb.drew = wc at HS ⊢
    have t1 : _ = some (Value.slice A1 n1 c1) := HS.out.cell 0 rfl 0
    have t2 : _ = some (Value.slice A2 n2 c2) := HS.out.cell 0 rfl 1
    have t3 : _ = some (Value.slice A3 n3 c3) := HS.out.cell 0 rfl 2
    have t4 : _ = some (Value.slice A4 n4 c4) := HS.out.cell 0 rfl 3
    have t5 : _ = some (Value.slice A5 n5 c5) := HS.out.cell 0 rfl 4
    have M0 := True.intro
    go_upto_region 5 with (first
   | (clear M1; go_at_call 12; (with_reducible refine (verify_any _ _ _ _ _ _ _ _ _ _ _ _ _ HLB.out HM.out HL3.out (by omega) (by omega) (HRB.out.below HS.out.below) (HS.out.rd 0 rfl) (HR3.out.below HS.out.below)).mono ?_); rintro e wv ⟨rfl, hb⟩; rw [B1.out]; have HS := hide (HS.out.call hb); have t1 : _ = some (Value.slice A1 n1 c1) := HS.out.cell 1 rfl 0; have t4 : _ = some (Value.slice A4 n4 c4) := HS.out.cell 1 rfl 3; have t5 : _ = some (Value.slice A5 n5 c5) := HS.out.cell 1 rfl 4; have M2 := True.intro)
   | (clear M0; go_at_call 73; (with_reducible refine (message_core _ _ _ _ _ _ _ _ _ _ _ _ _ _ _ _ _ _ _ _ _ HL1.out (by omega) (HR1.out.below HS.out.below) HL2.out (by omega) (HR2.out.below HS.out.below) HL3.out (by omega) (HR3.out.below HS.out.below) HL4.out (by omega) (HR4.out.below HS.out.below) HL5.out (by omega) (HR5.out.below HS.out.below)).mono ?_); rintro e wy ⟨Bm, dm, rfl, hb, ho⟩; have HS := hide (HS.out.row hb ho); clear ho; have M1 := True.intro)
   | (refine wpT_nil ?_)   | ((with_reducible refine fromT_refl ?_); (try simp only [Act.put, nq1, nq2, nq3, nq4, nq5, nq6]))   | ((with_reducible refine fromT_mk (by assumption) ?_); (try simp only [Act.put, nq1, nq2, nq3, nq4, nq5, nq6]))   | (refine wpT_pure (v := ?_) rfl rfl ?_ ?_; rotate_left; (intro wx; go_simp; try go_bits) <;> (with_reducible rfl); (try simp only [Act.put, nq1, nq2, nq3, nq4, nq5, nq6]))   | (refine wpT_load (v := ?_) rfl rfl rfl ?_ ?_; rotate_left; (go_simp; try go_bits) <;> (with_reducible rfl); (try simp only [Act.put, nq1, nq2, nq3, nq4, nq5, nq6]))   | (refine wpT_read (v := ?_) rfl rfl ?_ ?_; rotate_left; (intro wx hx; go_simp; try go_bits) <;> (with_reducible rfl); (try simp only [Act.put, nq1, nq2, nq3, nq4, nq5, nq6]))   | (refine wpT_call rfl rfl ?_; intro K hK)   | (refine wpT_late rfl rfl ?_; intro K hK)   | (refine wpT_any rfl rfl ?_; intro K hK)   | (refine wpT_skip rfl rfl ?_; (try simp only [Act.put, nq1, nq2, nq3, nq4, nq5, nq6])))
    refine wp_region_T [(0, 1), (1, 1), (2, 1), (3, 1), (4, 0), (5, 1), (6, 0), (7, 1), (10, 1), (11, 0), (8, 2), (9, 2), (12, 2), (13, 1), (14, 1)] (by kernel_rfl) (by kernel_rfl) (fun _ _ _ _ h => h) ?_
    have HS := hide HS.out.drew
    clear t1 t2 t3 t4 t5 M2
    generalize wv.drew = wd at HS ⊢
    have t1 : _ = some (Value.slice A1 n1 c1) := HS.out.cell 1 rfl 0
    have t4 : _ = some (Value.slice A4 n4 c4) := HS.out.cell 1 rfl 3
    have t5 : _ = some (Value.slice A5 n5 c5) := HS.out.cell 1 rfl 4
    have hbA := (Below.refl wd.heap.size wd).alloc (Nat.le_refl _) (.cells #[.slice A1 n1 c1, .slice Ab nb cb] 22)
    have M0 := True.intro
    go_wp2_with (first
     | (clear M1; go_at_call 12; (with_reducible refine (verify_any _ _ _ _ _ _ _ _ _ _ _ _ _ HL4.out HM2.out HL5.out (by omega) (by omega) (HR4.out.below HS.out.below) (HS.out.rd 0 rfl) (HR5.out.below HS.out.below)).mono ?_); rintro e wz ⟨rfl, hb⟩; rw [B2.out]; have HS := hide (HS.out.call hb); have M2 := True.intro)
     | (clear M0; go_at_call 50; (with_reducible refine (concat2 _ HL1.out HLB.out (by omega) (HR1.out.below HS.out.below) (HRB.out.below HS.out.below)).mono ?_); rintro e wy2 ⟨Bm2, dm2, rfl, hb, ho⟩; have HS := hide ((HS.out.skip _).row hb ho); clear ho; have M1 := True.intro)
     | (refine wpT_nil ?_)   | ((with_reducible refine fromT_refl ?_); (try simp only [Act.put, nq1, nq2, nq3, nq4, nq5, nq6]))   | ((with_reducible refine fromT_mk (by assumption) ?_); (try simp only [Act.put, nq1, nq2, nq3, nq4, nq5, nq6]))   | (refine wpT_pure (v := ?_) rfl rfl ?_ ?_; rotate_left; (intro wx; go_simp; try go_bits) <;> (with_reducible rfl); (try simp only [Act.put, nq1, nq2, nq3, nq4, nq5, nq6]))   | (refine wpT_load (v := ?_) rfl rfl rfl ?_ ?_; rotate_left; (go_simp; try go_bits) <;> (with_reducible rfl); (try simp only [Act.put, nq1, nq2, nq3, nq4, nq5, nq6]))   | (refine wpT_read (v := ?_) rfl rfl ?_ ?_; rotate_left; (intro wx hx; go_simp; try go_bits) <;> (with_reducible rfl); (try simp only [Act.put, nq1, nq2, nq3, nq4, nq5, nq6]))   | (refine wpT_call rfl rfl ?_; intro K hK)   | (refine wpT_late rfl rfl ?_; intro K hK)   | (refine wpT_any rfl rfl ?_; intro K hK)   | (refine wpT_skip rfl rfl ?_; (try simp only [Act.put, nq1, nq2, nq3, nq4, nq5, nq6])))
    go_ret
    exact ⟨rfl, HS.out.below⟩
end Go.Proofs.YtnohmgpmmhlloaaGreatDoor

namespace Go.Proofs.YtnohmgpmmhlloaaGreatDoor
open Go.RowKit
set_option linter.unusedSimpArgs false
theorem beq_dec8 (a b : List UInt8) : (a == b) = decide (a = b) := by
 by_cases h : a = b
 ·subst h; simp
 ·rw [decide_eq_false h]; simpa using h
theorem ends_core (A1 A2 A3 A : Option Addr) (m1 m2 m3 n c1 c2 c3 c : Nat) (l1 l2 l3 : List UInt8) (l : List Sg) (w : World) (hl2 : l2.length = m2) (hl3 : l3.length = m3) (hn : n ≤ 100) (hm2 : m2 ≤ 900) (hm3 : m3 ≤ 900)
  (hr2 : Rd w (.slice A2 m2 c2) 1 m2 (bvs l2)) (hr3 : Rd w (.slice A3 m3 c3) 1 m3 (bvs l3)) (hr : Rd w (.slice A (n + 1) c) 5 (n + 1) (sgCells l)) (z : Sg) (hz : l[n]? = some z) (hok : SgOK w z) (hs : z.b.b.length ≤ 60000 ∧ z.n.b.length ≤ 900 ∧ z.s.b.length ≤ 900 ∧ z.k.b.length ≤ 900 ∧ z.v.b.length ≤ 900) :
  Calls Tryz.prog 71 #[.agg #[.slice A1 m1 c1, .slice A (n + 1) c, .slice A2 m2 c2, .slice A3 m3 c3]] w fun e w' => e = .returned (.bool (endOK ⟨l1, l.map Sg.p, l2, l3⟩ z.p)) ∧ Below w.heap.size w w' := by
 have HS := hide ((St.init w NoB).alloc #[.slice A1 m1 c1, .slice A (n + 1) c, .slice A2 m2 c2, .slice A3 m3 c3] 26)
 obtain ⟨b, o, rfl, hb8, hc⟩ := sg_at hr hz
 obtain ⟨⟨E1, f1, y1⟩, ⟨E2, f2, y2⟩, ⟨E3, f3, y3⟩, ⟨E4, f4, y4⟩, ⟨E5, f5, y5⟩⟩ := z
 obtain ⟨k0, k1, k2, k3, k4⟩ := hc _ HS.out.below
 obtain ⟨b1, b2, b3, b4, b5⟩ := (show y1.length ≤ 60000 ∧ y2.length ≤ 900 ∧ y3.length ≤ 900 ∧ y4.length ≤ 900 ∧ y5.length ≤ 900 from hs)
 have HE1 : Hid (Rd w (.slice E1 y1.length f1) 1 y1.length (bvs y1)) := hide hok.b
 have HE2 : Hid (Rd w (.slice E2 y2.length f2) 1 y2.length (bvs y2)) := hide hok.n
 have HE3 : Hid (Rd w (.slice E3 y3.length f3) 1 y3.length (bvs y3)) := hide hok.s
 have HE4 : Hid (Rd w (.slice E4 y4.length f4) 1 y4.length (bvs y4)) := hide hok.k
 have HE5 : Hid (Rd w (.slice E5 y5.length f5) 1 y5.length (bvs y5)) := hide hok.v
 have HR2 := hide hr2
 have HR3 := hide hr3
 have HL2 := hide hl2
 have HL3 := hide hl3
 have hE : endOK ⟨l1, l.map Sg.p, l2, l3⟩ (Sg.p ⟨⟨E1, f1, y1⟩, ⟨E2, f2, y2⟩, ⟨E3, f3, y3⟩, ⟨E4, f4, y4⟩, ⟨E5, f5, y5⟩⟩) = if 0 < l2.length then decide (l3.length = 0) && (decide (l2.length = 32) && decide (pubL l2 = y2)) else verL y2 (y1 ++ (y2 ++ y3)) l3 := rfl
 rw [hl2, hl3] at hE
 clear hc hr2 hr3 hr hz hok hs hl2 hl3
 have t1 : _ = some (Value.slice (some ⟨b, o, none⟩) (n + 1) c) := HS.out.cell 0 rfl 1
 have en : ((n + 1 : Nat) : Int) - 1 = (n : Int) := by omega
 have en2 : (n : Int) + 1 - 1 = (n : Int) := by omega
 have nn : (n : Int) < (n : Int) + 1 := by omega
 have nn2 : n < n + 1 := by omega
 have nn3 : decide ((n : Int) < (n : Int) + 1) = true := by simp; omega
 have nn4 : decide (n < n + 1) = true := by simp
 generalize he : endOK ⟨l1, l.map Sg.p, l2, l3⟩ (Sg.p ⟨⟨E1, f1, y1⟩, ⟨E2, f2, y2⟩, ⟨E3, f3, y3⟩, ⟨E4, f4, y4⟩, ⟨E5, f5, y5⟩⟩) = eb at hE ⊢
 clear he
 have HEB := hide hE
 clear hE
 go_enter Tryz.func71, Tryz.ntmps71
 go_upto_region 2 with fail
 have hS5 := HS.out.alloc #[.slice E1 y1.length f1, .slice E2 y2.length f2, .slice E3 y3.length f3, .slice E4 y4.length f4, .slice E5 y5.length f5] 32
 rw [size_alloc1] at hS5
 have HS5 := hide hS5
 clear hS5
 generalize World.alloc (World.alloc w _) _ = w5 at HS5 ⊢
 clear HS t1 k0 k1 k2 k3 k4 hb8 en en2 nn nn2 nn3 nn4
 have HS := HS5
 clear HS5
 have q2 : _ = some (Value.slice A2 m2 c2) := HS.out.cell 1 rfl 2
 by_cases h0 : m2 = 0
 ·subst h0
  have hE := HEB.out
  rw [if_neg (Nat.lt_irrefl 0)] at hE
  have HBB := hide hE.symm
  clear HEB hE
  go_upto_region 4 with fail
  refine wp_region_T [(0, 1), (1, 0), (2, 0), (4, 1), (5, 0), (3, 2), (6, 2), (7, 1)] (by kernel_rfl) (by kernel_rfl) (fun _ _ _ _ h => h) ?_
  have HS := hide HS.out.drew
  clear q2
  generalize w5.drew = w6 at HS ⊢
  have q3 : _ = some (Value.slice A3 m3 c3) := HS.out.cell 1 rfl 3
  have s1 : _ = some (Value.slice E1 y1.length f1) := HS.out.cell 0 rfl 0
  have s2 : _ = some (Value.slice E2 y2.length f2) := HS.out.cell 0 rfl 1
  have s3 : _ = some (Value.slice E3 y3.length f3) := HS.out.cell 0 rfl 2
  have s4 : _ = some (Value.slice E4 y4.length f4) := HS.out.cell 0 rfl 3
  have s5 : _ = some (Value.slice E5 y5.length f5) := HS.out.cell 0 rfl 4
  have HM := hide (len_add3 (rfl : y1.length = _) (rfl : y2.length = _) (rfl : y3.length = _))
  have M0 := True.intro
  go_wp2_with (first
   | (clear M1; go_at_call 12; (with_reducible refine (verify_any _ _ _ _ _ _ _ _ _ _ _ _ _ rfl HM.out HL3.out (by omega) (by omega) (HE2.out.below HS.out.below) (HS.out.rd 0 rfl) (HR3.out.below HS.out.below)).mono ?_); rintro e wz ⟨rfl, hb⟩; rw [HBB.out]; have HS := hide (HS.out.call hb); have M2 := True.intro)
   | (clear M0; go_at_call 53; (with_reducible refine (sealed_core _ _ _ _ _ _ _ _ _ _ _ _ _ _ _ _ _ _ _ _ _ rfl (by omega) (HE1.out.below HS.out.below) rfl (by omega) (HE2.out.below HS.out.below) rfl (by omega) (HE3.out.below HS.out.below) rfl (by omega) (HE4.out.below HS.out.below) rfl (by omega) (HE5.out.below HS.out.below)).mono ?_); rintro e w7 ⟨Bm, dm, rfl, hb, ho⟩; have HS := hide (HS.out.row hb ho); clear ho; have M1 := True.intro)
   | (refine wpT_nil ?_)   | ((with_reducible refine fromT_refl ?_); (try simp only [Act.put, nq1, nq2, nq3, nq4, nq5, nq6]))   | ((with_reducible refine fromT_mk (by assumption) ?_); (try simp only [Act.put, nq1, nq2, nq3, nq4, nq5, nq6]))   | (refine wpT_pure (v := ?_) rfl rfl ?_ ?_; rotate_left; (intro wx; go_simp; try go_bits) <;> (with_reducible rfl); (try simp only [Act.put, nq1, nq2, nq3, nq4, nq5, nq6]))   | (refine wpT_load (v := ?_) rfl rfl rfl ?_ ?_; rotate_left; (go_simp; try go_bits) <;> (with_reducible rfl); (try simp only [Act.put, nq1, nq2, nq3, nq4, nq5, nq6]))   | (refine wpT_read (v := ?_) rfl rfl ?_ ?_; rotate_left; (intro wx hx; go_simp; try go_bits) <;> (with_reducible rfl); (try simp only [Act.put, nq1, nq2, nq3, nq4, nq5, nq6]))   | (refine wpT_call rfl rfl ?_; intro K hK)   | (refine wpT_late rfl rfl ?_; intro K hK)   | (refine wpT_any rfl rfl ?_; intro K hK)   | (refine wpT_skip rfl rfl ?_; (try simp only [Act.put, nq1, nq2, nq3, nq4, nq5, nq6])))
  go_ret
  exact ⟨rfl, HS.out.below⟩
 ·have hE := HEB.out
  rw [if_pos (by omega)] at hE
  clear HEB
  have g0 : decide ((0 : Int) < (m2 : Int)) = true := by simp; omega
  have g0' : decide (0 < m2) = true := by simp; omega
  go_upto_region 3 with fail
  refine wp_region_T [(0, 1), (1, 0), (2, 1), (3, 1), (4, 1), (5, 1), (6, 0), (7, 2), (8, 1), (9, 1), (10, 1), (11, 0), (13, 1), (14, 0), (12, 2), (15, 2), (16, 1), (17, 1)] (by kernel_rfl) (by kernel_rfl) (fun _ _ _ _ h => h) ?_
  have HS := hide HS.out.drew
  clear q2
  generalize w5.drew = w6 at HS ⊢
  have q2 : _ = some (Value.slice A2 m2 c2) := HS.out.cell 1 rfl 2
  have q3 : _ = some (Value.slice A3 m3 c3) := HS.out.cell 1 rfl 3
  have s2 : _ = some (Value.slice E2 y2.length f2) := HS.out.cell 0 rfl 1
  by_cases h3 : m3 = 0
  ·subst h3
   by_cases h32 : m2 = 32
   ·subst h32
    rw [decide_eq_true (rfl : 0 = 0), decide_eq_true (rfl : 32 = 32), Bool.true_and, Bool.true_and, ← beq_dec8] at hE
    have HQ := hide hE.symm
    clear hE
    have M0 := True.intro
    go_wp2_with (first
     | (clear M1; go_at_call 54; (with_reducible refine (eqB_any _ _ _ _ _ _ _ _ _ _ HQ.out (HS.out.rd 0 rfl) (HE2.out.below HS.out.below)).mono ?_); rintro e wy ⟨rfl, rfl⟩; have hb := Below.refl w8.heap.size w8; have M2 := True.intro)
     | (clear M0; go_at_call 11; (with_reducible refine (pub_32 _ _ _ _ HL2.out (HR2.out.below HS.out.below)).mono ?_); rintro e w8 ⟨Bp, dp, rfl, hb, ho⟩; have HS := hide (HS.out.row hb ho); clear ho; have M1 := True.intro)
     | (go_at_call 31; (with_reducible refine (seed_yes _ _ _).mono ?_); rintro e wy ⟨rfl, rfl⟩; have hb := Below.refl w6.heap.size w6)
     | (refine wpT_nil ?_)   | ((with_reducible refine fromT_refl ?_); (try simp only [Act.put, nq1, nq2, nq3, nq4, nq5, nq6]))   | ((with_reducible refine fromT_mk (by assumption) ?_); (try simp only [Act.put, nq1, nq2, nq3, nq4, nq5, nq6]))   | (refine wpT_pure (v := ?_) rfl rfl ?_ ?_; rotate_left; (intro wx; go_simp; try go_bits) <;> (with_reducible rfl); (try simp only [Act.put, nq1, nq2, nq3, nq4, nq5, nq6]))   | (refine wpT_load (v := ?_) rfl rfl rfl ?_ ?_; rotate_left; (go_simp; try go_bits) <;> (with_reducible rfl); (try simp only [Act.put, nq1, nq2, nq3, nq4, nq5, nq6]))   | (refine wpT_read (v := ?_) rfl rfl ?_ ?_; rotate_left; (intro wx hx; go_simp; try go_bits) <;> (with_reducible rfl); (try simp only [Act.put, nq1, nq2, nq3, nq4, nq5, nq6]))   | (refine wpT_call rfl rfl ?_; intro K hK)   | (refine wpT_late rfl rfl ?_; intro K hK)   | (refine wpT_any rfl rfl ?_; intro K hK)   | (refine wpT_skip rfl rfl ?_; (try simp only [Act.put, nq1, nq2, nq3, nq4, nq5, nq6])))
    go_ret
    exact ⟨rfl, HS.out.below⟩
   ·rw [decide_eq_false h32, Bool.false_and, Bool.and_false] at hE
    subst hE
    go_wp2_with (first
     | (go_at_call 31; (with_reducible refine (seed_no _ _ _ _ h32).mono ?_); rintro e wy ⟨rfl, rfl⟩; have hb := Below.refl w6.heap.size w6)
     | (refine wpT_nil ?_)   | ((with_reducible refine fromT_refl ?_); (try simp only [Act.put, nq1, nq2, nq3, nq4, nq5, nq6]))   | ((with_reducible refine fromT_mk (by assumption) ?_); (try simp only [Act.put, nq1, nq2, nq3, nq4, nq5, nq6]))   | (refine wpT_pure (v := ?_) rfl rfl ?_ ?_; rotate_left; (intro wx; go_simp; try go_bits) <;> (with_reducible rfl); (try simp only [Act.put, nq1, nq2, nq3, nq4, nq5, nq6]))   | (refine wpT_load (v := ?_) rfl rfl rfl ?_ ?_; rotate_left; (go_simp; try go_bits) <;> (with_reducible rfl); (try simp only [Act.put, nq1, nq2, nq3, nq4, nq5, nq6]))   | (refine wpT_read (v := ?_) rfl rfl ?_ ?_; rotate_left; (intro wx hx; go_simp; try go_bits) <;> (with_reducible rfl); (try simp only [Act.put, nq1, nq2, nq3, nq4, nq5, nq6]))   | (refine wpT_call rfl rfl ?_; intro K hK)   | (refine wpT_late rfl rfl ?_; intro K hK)   | (refine wpT_any rfl rfl ?_; intro K hK)   | (refine wpT_skip rfl rfl ?_; (try simp only [Act.put, nq1, nq2, nq3, nq4, nq5, nq6])))
    go_ret
    exact ⟨rfl, HS.out.below⟩
  ·rw [decide_eq_false h3, Bool.false_and] at hE
   subst hE
   have g3 : ((m3 : Int) == 0) = false := by simp; omega
   have g3' : decide ((m3 : Int) = 0) = false := by simp; omega
   go_wp2_with (first | (refine wpT_nil ?_)   | ((with_reducible refine fromT_refl ?_); (try simp only [Act.put, nq1, nq2, nq3, nq4, nq5, nq6]))   | ((with_reducible refine fromT_mk (by assumption) ?_); (try simp only [Act.put, nq1, nq2, nq3, nq4, nq5, nq6]))   | (refine wpT_pure (v := ?_) rfl rfl ?_ ?_; rotate_left; (intro wx; go_simp; try go_bits) <;> (with_reducible rfl); (try simp only [Act.put, nq1, nq2, nq3, nq4, nq5, nq6]))   | (refine wpT_load (v := ?_) rfl rfl rfl ?_ ?_; rotate_left; (go_simp; try go_bits) <;> (with_reducible rfl); (try simp only [Act.put, nq1, nq2, nq3, nq4, nq5, nq6]))   | (refine wpT_read (v := ?_) rfl rfl ?_ ?_; rotate_left; (intro wx hx; go_simp; try go_bits) <;> (with_reducible rfl); (try simp only [Act.put, nq1, nq2, nq3, nq4, nq5, nq6]))   | (refine wpT_call rfl rfl ?_; intro K hK)   | (refine wpT_late rfl rfl ?_; intro K hK)   | (refine wpT_any rfl rfl ?_; intro K hK)   | (refine wpT_skip rfl rfl ?_; (try simp only [Act.put, nq1, nq2, nq3, nq4, nq5, nq6])))
   go_ret
   exact ⟨rfl, HS.out.below⟩
theorem verF_cons (y : List UInt8) (f : Bool) (x : Sp) (l : List Sp) (h : x.b.length ≤ 65536) : verF y f (x :: l) = if blkOK y f x = true then verF x.n false l else 9 := by
 rw [verF, if_neg (by omega)]
theorem zz8 (k : Nat) : ((k : Int) == 0) = (k == 0) ∧ decide ((k : Int) = 0) = (k == 0) ∧ decide (k = 0) = (k == 0) := by
 cases k with
 | zero => exact ⟨rfl, rfl, rfl⟩
 | succ k => exact ⟨(beq_eq_false_iff_ne.2 (by omega)).trans rfl, (decide_eq_false (by omega)).trans rfl, (decide_eq_false (by omega)).trans rfl⟩
def Sp.ver (x : Sp) : Prop := x.b.length ≤ 60000 ∧ x.n.length ≤ 900 ∧ x.s.length ≤ 900 ∧ x.k.length ≤ 900 ∧ x.v.length ≤ 900
theorem verify24_any (A1 A2 A3 A : Option Addr) (m1 m2 m3 n c1 c2 c3 c : Nat) (l1 l2 l3 : List UInt8) (l : List Sg) (w : World) (hl1 : l1.length = m1) (hl2 : l2.length = m2) (hl3 : l3.length = m3) (hl : l.length = n + 1) (hn : n ≤ 7) (hm1 : m1 ≤ 900) (hm2 : m2 ≤ 900) (hm3 : m3 ≤ 900)
  (hr1 : Rd w (.slice A1 m1 c1) 1 m1 (bvs l1)) (hr2 : Rd w (.slice A2 m2 c2) 1 m2 (bvs l2)) (hr3 : Rd w (.slice A3 m3 c3) 1 m3 (bvs l3)) (hr : Rd w (.slice A (n + 1) c) 5 (n + 1) (sgCells l)) (hok : ∀ x ∈ l, SgOK w x) (hs : ∀ x ∈ l, x.p.ver) :
  Calls Tryz.prog 29 #[.agg #[.slice A1 m1 c1, .slice A (n + 1) c, .slice A2 m2 c2, .slice A3 m3 c3]] w fun e w' => e = .returned (.int .i64 (verT ⟨l1, l.map Sg.p, l2, l3⟩ : Nat)) ∧ Below w.heap.size w w' := by
 have HS := hide ((St.init w NoB).alloc #[.slice A1 m1 c1, .slice A (n + 1) c, .slice A2 m2 c2, .slice A3 m3 c3] 26)
 subst hl1
 have hnl : n < l.length := by omega
 have hz : l[n]? = some l[n] := List.getElem?_eq_getElem hnl
 have HEN := hide (fun W (hW : Below w.heap.size w W) => ends_core A1 A2 A3 A l1.length m2 m3 n c1 c2 c3 c l1 l2 l3 l W hl2 hl3 (by omega) hm2 hm3 (hr2.below hW) (hr3.below hW) (hr.below hW) l[n] hz ((hok _ (List.getElem_mem hnl)).on hW) (hs _ (List.getElem_mem hnl)))
 have hv : verT ⟨l1, l.map Sg.p, l2, l3⟩ = if verF l1 true (l.map Sg.p) ≠ 0 then verF l1 true (l.map Sg.p) else if endOK ⟨l1, l.map Sg.p, l2, l3⟩ l[n].p = true then 0 else 9 := by
  unfold verT
  rw [show (Tp.l ⟨l1, l.map Sg.p, l2, l3⟩).getLast? = some l[n].p from last_map hl hz]
  show (if 8 < (l.map Sg.p).length then 4 else _) = _
  rw [if_neg (by rw [List.length_map]; omega)]
 generalize l[n].p = zp at HEN hv
 generalize endOK ⟨l1, l.map Sg.p, l2, l3⟩ zp = eb at HEN hv
 generalize verT ⟨l1, l.map Sg.p, l2, l3⟩ = res at hv ⊢
 have HV := hide hv
 have HL := hide hl
 have HR := hide hr
 have HR1 := hide hr1
 have HOK := hide hok
 have HSS := hide hs
 have d1 : (((n + 1 : Nat) : Int) == 0) = false := by simp; omega
 have d1' : decide (((n + 1 : Nat) : Int) = 0) = false := by simp; omega
 have d2 : decide ((8 : Int) < ((n + 1 : Nat) : Int)) = false := by simp; omega
 have d2' : decide (8 < n + 1) = false := by simp; omega
 have d2b : decide ((8 : Int) < (n : Int) + 1) = false := by simp; omega
 have d1b : (((n : Int) + 1) == 0) = false := by simp; omega
 have d1c : decide ((n : Int) + 1 = 0) = false := by simp; omega
 have t0 : _ = some (Value.slice A1 l1.length c1) := HS.out.cell 0 rfl 0
 have t1 : _ = some (Value.slice A (n + 1) c) := HS.out.cell 0 rfl 1
 clear hz hnl hv hl hr hl2 hl3 hr2 hr3 hok hs
 go_enter Tryz.func29, Tryz.ntmps29
 go_wp2_with fail
 go_loopw [3, 21] (fun bv iv wr => ∃ (k : Nat) (B : Option Addr) (d : Nat) (y : List UInt8), k ≤ n + 1 ∧ iv = .int .i64 (k : Int) ∧ bv = .slice B y.length d ∧ y.length ≤ 900 ∧ Hid (verF l1 true (l.map Sg.p) = verF y (k == 0) ((l.drop k).map Sg.p)) ∧ Hid (Rd w (.slice B y.length d) 1 y.length (bvs y)) ∧ Hid (St w NoB wr [.cells w.heap.size #[.slice A1 l1.length c1, .slice A (n + 1) c, .slice A2 m2 c2, .slice A3 m3 c3] 26])) (fun _ i _ => (n + 1 - intOf i).toNat)
 case atStart => exact ⟨0, A1, c1, l1, by omega, rfl, rfl, hm1, rfl, hide hr1, HS⟩
 case round =>
  clear HS t0 t1 hr1
  obtain ⟨k, B, d, y, hk, rfl, rfl, hy, HF, HB, HS⟩ := hrel
  by_cases hlt : k < n + 1
  ·have e0 : decide ((k : Int) < (n : Int) + 1) = true := by simp; omega
   have e0' : decide (k < n + 1) = true := by simp; omega
   have kn : (k : Int) < (n : Int) + 1 := by omega
   have kl : k < l.length := by have := HL.out; omega
   have hlk : l[k]? = some l[k] := List.getElem?_eq_getElem kl
   obtain ⟨b, o, rfl, hb8, hc⟩ := sg_at HR.out hlk
   obtain ⟨k0, k1, k2, k3, k4⟩ := hc _ HS.out.below
   have HOX := hide (HOK.out l[k] (List.getElem_mem kl))
   have HSX := hide (HSS.out l[k] (List.getElem_mem kl))
   have HD := hide (show (l.drop k).map Sg.p = l[k].p :: (l.drop (k + 1)).map Sg.p by rw [List.drop_eq_getElem_cons kl]; rfl)
   generalize l[k] = x at k0 k1 k2 k3 k4 HOX HSX HD
   rw [HD.out, verF_cons _ _ _ _ (Nat.le_trans HSX.out.1 (by decide))] at HF
   obtain ⟨⟨E1, f1, y1⟩, ⟨E2, f2, y2⟩, ⟨E3, f3, y3⟩, ⟨E4, f4, y4⟩, ⟨E5, f5, y5⟩⟩ := x
   obtain ⟨b1, b2, b3, b4, b5⟩ := (show y1.length ≤ 60000 ∧ y2.length ≤ 900 ∧ y3.length ≤ 900 ∧ y4.length ≤ 900 ∧ y5.length ≤ 900 from HSX.out)
   have HE1 : Hid (Rd w (.slice E1 y1.length f1) 1 y1.length (bvs y1)) := hide HOX.out.b
   have HE2 : Hid (Rd w (.slice E2 y2.length f2) 1 y2.length (bvs y2)) := hide HOX.out.n
   have HE3 : Hid (Rd w (.slice E3 y3.length f3) 1 y3.length (bvs y3)) := hide HOX.out.s
   have HE4 : Hid (Rd w (.slice E4 y4.length f4) 1 y4.length (bvs y4)) := hide HOX.out.k
   have HE5 : Hid (Rd w (.slice E5 y5.length f5) 1 y5.length (bvs y5)) := hide HOX.out.v
   obtain ⟨fs, hf⟩ : ∃ b, (k == 0) = b := ⟨_, rfl⟩
   obtain ⟨z1, z2, z3⟩ := zz8 k
   rw [hf] at z1 z2 z3
   rw [hf] at HF
   have z4 := hf
   clear hc hlk kl HOX HSX hf
   go_upto_region 9 with (refine wl_storeC rfl rfl (HS.out.alloc _ _) 0 rfl (vs := [.slice E1 y1.length f1, .slice E2 y2.length f2, .slice E3 y3.length f3, .slice E4 y4.length f4, .slice E5 y5.length f5]) szSigned (Nat.le_refl _) rfl rfl one5 ?_; intro w5 hS5; have HS5 := hide hS5; clear hS5)
   have HS5 : Hid (St w NoB w5 (.cells wr.heap.size #[.slice E1 y1.length f1, .slice E2 y2.length f2, .slice E3 y3.length f3, .slice E4 y4.length f4, .slice E5 y5.length f5] 32 :: .cells w.heap.size #[.slice A1 l1.length c1, .slice (some ⟨b, o, none⟩) (n + 1) c, .slice A2 m2 c2, .slice A3 m3 c3] 26 :: [])) := HS5
   have q0 : _ = some (Value.slice E1 y1.length f1) := HS5.out.cell 0 rfl 0
   have q1 : _ = some (Value.slice E2 y2.length f2) := HS5.out.cell 0 rfl 1
   have q2 : _ = some (Value.slice E3 y3.length f3) := HS5.out.cell 0 rfl 2
   have q3 : _ = some (Value.slice E4 y4.length f4) := HS5.out.cell 0 rfl 3
   have q4 : _ = some (Value.slice E5 y5.length f5) := HS5.out.cell 0 rfl 4
   have HW := hide (right_core E1 E2 E3 E4 E5 y1.length y2.length y3.length y4.length y5.length f1 f2 f3 f4 f5 y1 y2 y3 y4 y5 B y.length d y fs _ rfl (by omega) (HE1.out.below HS5.out.below) rfl (by omega) (HE2.out.below HS5.out.below) rfl (by omega) (HE3.out.below HS5.out.below) rfl (by omega) (HE4.out.below HS5.out.below) rfl (by omega) (HE5.out.below HS5.out.below) rfl (by omega) (HB.out.below HS5.out.below))
   obtain ⟨bk, hbk⟩ : ∃ b, blkOK y fs ⟨y1, y2, y3, y4, y5⟩ = b := ⟨_, rfl⟩
   replace HF : Hid (verF l1 true (l.map Sg.p) = if blkOK y fs ⟨y1, y2, y3, y4, y5⟩ = true then verF y2 false ((l.drop (k + 1)).map Sg.p) else 9) := HF
   have g1 : decide ((65536 : Int) < (y1.length : Int)) = false := by simp; omega
   have g1' : decide (65536 < y1.length) = false := by simp; omega
   rw [hbk] at HW HF
   clear HS hbk
   cases bk with
   | false =>
    have HR9 : Hid (res = 9) := hide (by rw [HV.out, HF.out]; simp)
    go_wp2_with (go_at_call 70; (with_reducible refine HW.out.mono ?_); rintro e w6 ⟨rfl, hb⟩; have HS := hide (HS5.out.call hb); clear hb)
    go_ret
    rw [HR9.out]
    exact ⟨rfl, HS.out.below⟩
   | true =>
    go_wp2_with (go_at_call 70; (with_reducible refine HW.out.mono ?_); rintro e w6 ⟨rfl, hb⟩; have HS := hide (HS5.out.call hb); clear hb q0 q1 q2 q3 q4; have q1 : _ = some (Value.slice E2 y2.length f2) := HS.out.cell 0 rfl 1)
    go_roundw
    case rel => exact ⟨k + 1, E2, f2, y2, by omega, by go_num, rfl, b2, hide (by rw [HF.out, if_pos trivial]; rfl), HE2, hide HS.out.tail⟩
    case measure => (simp [intOf]) <;> omega
  ·obtain rfl : k = n + 1 := by omega
   have e0 : decide (((n + 1 : Nat) : Int) < (n : Int) + 1) = false := by simp
   have e0a : decide ((n : Int) + 1 < (n : Int) + 1) = false := by simp
   have e0' : decide (n + 1 < n + 1) = false := by simp
   have HR0 : Hid (res = if eb = true then 0 else 9) := hide (by
    rw [HV.out, HF.out, List.drop_of_length_le (by rw [HL.out]; exact Nat.le_refl _)]
    rfl)
   have t0 : _ = some (Value.slice A1 l1.length c1) := HS.out.cell 0 rfl 0
   have t1 : _ = some (Value.slice A (n + 1) c) := HS.out.cell 0 rfl 1
   have t2 : _ = some (Value.slice A2 m2 c2) := HS.out.cell 0 rfl 2
   have t3 : _ = some (Value.slice A3 m3 c3) := HS.out.cell 0 rfl 3
   cases eb with
   | false =>
    have HR9 : Hid (res = 9) := HR0
    go_wp2_with (go_at_call 71; (with_reducible refine (HEN.out _ HS.out.below).mono ?_); rintro e w6 ⟨rfl, hb⟩; have HS := hide (HS.out.call hb); clear hb)
    go_ret
    rw [HR9.out]
    exact ⟨rfl, HS.out.below⟩
   | true =>
    have HR9 : Hid (res = 0) := HR0
    go_wp2_with (go_at_call 71; (with_reducible refine (HEN.out _ HS.out.below).mono ?_); rintro e w6 ⟨rfl, hb⟩; have HS := hide (HS.out.call hb); clear hb)
    go_ret
    rw [HR9.out]
    exact ⟨rfl, HS.out.below⟩
end Go.Proofs.YtnohmgpmmhlloaaGreatDoor

namespace Go.Proofs.YtnohmgpmmhlloaaGreatDoor
open Go.RowKit
set_option linter.unusedSimpArgs false
structure GN (root first : List UInt8) (i : Nat) (p : Tp) : Prop where
 good : Good p
 r : p.r = root
 len : p.l.length = i + 1
 fst : ∃ x, p.l[0]? = some x ∧ x.b = first
 sm : ∀ x ∈ p.l, x.b.length ≤ 200 ∧ x.n.length ≤ 32 ∧ x.s.length ≤ 64 ∧ x.k.length ≤ 32 ∧ x.v.length ≤ 64
theorem gn_issue (y nx b : List UInt8) (hy : y.length = 32) (hx : nx.length = 32) (hb : b.length ≤ 200) : GN (pubL y) b 0 (issueK y nx b) := by
 refine ⟨good_issue y nx b hy hx (by omega), rfl, rfl, ⟨_, rfl, rfl⟩, fun x hx => ?_⟩
 obtain rfl := List.mem_singleton.1 (show x ∈ [_] from hx)
 exact ⟨hb, by show (pubL _).length ≤ _; rw [pubL_len]; decide, by show (sigL _ _).length ≤ _; rw [sigL_len]; decide, by show 0 ≤ _; decide, by show 0 ≤ _; decide⟩
theorem gn_add {root first : List UInt8} {i : Nat} {p : Tp} (h : GN root first i p) (nx b k v : List UInt8) (hx : nx.length = 32) (hb : b.length ≤ 200) (hk : k.length ≤ 32) (hv : v.length ≤ 64) (hkv : (k.length + v.length = 0) ∨ ∃ z, p.l.getLast? = some z ∧ verL k (b ++ z.n) v = true) : GN root first (i + 1) (addK p nx ⟨b, [], [], k, v⟩) := by
 refine ⟨good_add p nx _ h.good hx (by show b.length ≤ _; omega) hkv, h.r, ?_, ?_, fun x hx => ?_⟩
 ·show (p.l ++ [_]).length = _
  rw [List.length_append, h.len]
  rfl
 ·obtain ⟨x, h1, h2⟩ := h.fst
  refine ⟨x, ?_, h2⟩
  show (p.l ++ [_])[0]? = _
  rw [List.getElem?_append_left (by rw [h.len]; omega)]
  exact h1
 ·rcases List.mem_append.1 (show x ∈ p.l ++ [_] from hx) with hx | hx
  ·exact h.sm x hx
  ·obtain rfl := List.mem_singleton.1 hx
   exact ⟨hb, by show (pubL _).length ≤ _; rw [pubL_len]; decide, by show (sigL _ _).length ≤ _; rw [sigL_len]; decide, hk, hv⟩
theorem gn_new {root first : List UInt8} {i : Nat} {p : Tp} (h : GN root first i p) (nx b k v : List UInt8) : ∃ x, (addK p nx ⟨b, [], [], k, v⟩).l[i + 1]? = some x ∧ x.b = b := by
 refine ⟨signK p.e nx ⟨b, [], [], k, v⟩, ?_, rfl⟩
 show (p.l ++ [_])[i + 1]? = _
 rw [List.getElem?_append_right (by rw [h.len]; omega), h.len, Nat.sub_self]
 rfl
theorem gn_rz {root first : List UInt8} {i : Nat} {p : Tp} (h : GN root first i p) (hi : i < 7) (nx b k v : List UInt8) (hx : nx.length = 32) (hb : b.length ≤ 200) : addRz p nx ⟨b, [], [], k, v⟩ = ⟨0, addK p nx ⟨b, [], [], k, v⟩⟩ := by
 unfold addRz
 rw [if_neg (by omega), if_neg (by show ¬ 65536 < b.length; omega), if_neg (by rw [h.len]; omega), if_neg (by rw [h.good.e]; omega), if_neg (by rw [h.len]; omega)]
theorem gn_few {root first : List UInt8} {i : Nat} {p : Tp} (h : GN root first i p) (hr : root.length ≤ 200) (hi : i ≤ 7) : p.few :=
 ⟨by rw [h.r]; exact hr, by rw [h.good.e]; decide, by rw [h.good.z]; decide, by rw [h.len]; omega, fun x hx => by obtain ⟨a, b, c, d, e⟩ := h.sm x hx; exact ⟨by omega, by omega, by omega, by omega, by omega⟩⟩
structure EndT (root first : List UInt8) (i : Nat) (p : Tp) : Prop where
 few : p.few
 r : p.r = root
 len : p.l.length = i + 1
 fst : ∃ x, p.l[0]? = some x ∧ x.b = first
 ver : verT p = 0
 sv : ∀ x ∈ p.l, x.ver
 tiny : S6.Tiny p
 q : (S6.encL p).length ≤ 65536
 dec : S6.decRz (S6.encL p) root = ⟨0, p⟩
theorem tot_le : ∀ (l : List Sp), (∀ x ∈ l, x.b.length ≤ 200 ∧ x.n.length ≤ 32 ∧ x.s.length ≤ 64 ∧ x.k.length ≤ 32 ∧ x.v.length ≤ 64) → S6.totL l ≤ 392 * l.length
 | [], _ => by decide
 | x :: l, h => by
  have ih := tot_le l fun y hy => h y (List.mem_cons_of_mem _ hy)
  obtain ⟨a, b, c, d, e⟩ := h x (List.mem_cons_self ..)
  unfold S6.totL at ih ⊢
  rw [List.map_cons, List.sum_cons, List.length_cons]
  unfold S6.spLen at ih ⊢
  omega
theorem endT_of {root first : List UInt8} {i : Nat} {p : Tp} (hr : root.length ≤ 200) (hi : i ≤ 7) (h1 : p.r = root) (h2 : p.l.length = i + 1) (h3 : ∃ x, p.l[0]? = some x ∧ x.b = first) (h4 : verT p = 0) (h5 : ∀ x ∈ p.l, x.b.length ≤ 200 ∧ x.n.length ≤ 32 ∧ x.s.length ≤ 64 ∧ x.k.length ≤ 32 ∧ x.v.length ≤ 64) (h6 : p.e.length ≤ 100) (h7 : p.z.length ≤ 100) : EndT root first i p := by
 have ht : S6.Tiny p := ⟨by omega, by omega, by omega, by omega, fun x hx => by obtain ⟨a, b, c, d, e⟩ := h5 x hx; exact ⟨by omega, by omega, by omega, by omega, by omega⟩⟩
 refine ⟨⟨by rw [h1]; exact hr, by omega, by omega, by omega, fun x hx => ?_⟩, h1, h2, h3, h4, fun x hx => ?_, ht, ?_, by rw [← h1]; exact S6.dec_enc p ht⟩
 ·obtain ⟨a, b, c, d, e⟩ := h5 x hx
  exact ⟨by omega, by omega, by omega, by omega, by omega⟩
 ·obtain ⟨a, b, c, d, e⟩ := h5 x hx
  exact ⟨by omega, by omega, by omega, by omega, by omega⟩
 ·have := S6.encL_le p
  have := tot_le p.l h5
  omega
theorem gn_end {root first : List UInt8} {i : Nat} {p : Tp} (h : GN root first i p) (hr : root.length ≤ 200) (hi : i ≤ 7) : EndT root first i p :=
 endT_of hr hi h.r h.len h.fst (ver_good p h.good (by rw [h.len]; omega)) h.sm (by rw [h.good.e]; decide) (by rw [h.good.z]; decide)
theorem gn_seal {root first : List UInt8} {i : Nat} {p : Tp} (h : GN root first i p) (hr : root.length ≤ 200) (hi : i ≤ 7) : ∃ p', sealRz p = ⟨0, p'⟩ ∧ EndT root first i p' ∧ p'.e = [] ∧ p'.z.length = 64 ∧ (∀ nx, nx.length = 32 → addRz p' nx ⟨[], [], [], [], []⟩ = ⟨13, tp0⟩) ∧ sealRz p' = ⟨13, tp0⟩ := by
 obtain ⟨z, hz, hzn⟩ := h.good.last
 refine ⟨sealK p z, ?_, endT_of hr hi h.r h.len h.fst (ver_seal p z h.good (by rw [h.len]; omega) hz) h.sm (by show 0 ≤ _; decide) (by show (sigL _ _).length ≤ _; rw [sigL_len]; decide), rfl, sigL_len _ _, fun nx hx => ?_, ?_⟩
 ·unfold sealRz
  rw [hz]
  show (if p.e.length ≠ 32 then _ else _) = _
  rw [if_neg (by rw [h.good.e]; omega)]
 ·unfold addRz
  rw [if_neg (by omega), if_neg (by show ¬ 65536 < 0; omega), if_neg (by show ¬ p.l.length = 0; rw [h.len]; omega), if_pos (by show ([] : List UInt8).length ≠ 32; decide)]
 ·unfold sealRz
  rw [show (sealK p z).l.getLast? = some z from hz]
  show (if (sealK p z).e.length ≠ 32 then _ else _) = _
  rw [if_pos (by show ([] : List UInt8).length ≠ 32; decide)]
section
variable {w0 w : World} {M : Nat → Prop} {H : List Chunk} {p : Tp} {B1 X B2 B3 : Option Addr} {m1 d1 n x m2 d2 m3 d3 : Nat}
theorem encode_in {q : Nat} (hS : St w0 M w H) (hL : Laid H p B1 m1 d1 X n x B2 m2 d2 B3 m3 d3) (ht : S6.Tiny p) (hq : (S6.encL p).length = q) (hq2 : q ≤ 65536) :
  Calls Tryz.prog 24 #[.agg #[.slice B1 m1 d1, .slice X n x, .slice B2 m2 d2, .slice B3 m3 d3]] w (S6.EncS w q (S6.encL p)) := by
 obtain ⟨zs, a1, a2, a3, a4, a5, r1, r2, r3, r4, hok⟩ := hL.open hS
 obtain ⟨pr, pl, pe, pz⟩ := p
 subst a2
 have h0 : 0 < n := by have := ht.n0; rw [List.length_map, a1] at this; exact this
 have h8 : n ≤ 8 := by have := ht.n8; rw [List.length_map, a1] at this; exact this
 exact S6.encode_ok B1 B2 B3 X m1 m2 m3 n d1 d2 d3 x q pr pe pz zs w a4 a5 a1 h0 h8 (by rw [← a4]; exact ht.e) (by rw [← a5]; exact ht.z) (fun x hx => ht.l _ (List.mem_map_of_mem hx)) hq hq2 r2 r3 r4 hok
theorem verify_in {c : Nat} (hS : St w0 M w H) (hL : Laid H p B1 m1 d1 X n x B2 m2 d2 B3 m3 d3) (hf : p.few) (h0 : 0 < n) (h8 : n ≤ 8) (hv : ∀ x ∈ p.l, x.ver) (hc : verT p = c) :
  Calls Tryz.prog 29 #[.agg #[.slice B1 m1 d1, .slice X n x, .slice B2 m2 d2, .slice B3 m3 d3]] w fun e w' => e = .returned (.int .i64 (c : Int)) ∧ Below w.heap.size w w' := by
 obtain ⟨zs, a1, a2, a3, a4, a5, r1, r2, r3, r4, hok⟩ := hL.open hS
 obtain ⟨pr, pl, pe, pz⟩ := p
 subst a2
 obtain ⟨k, rfl⟩ : ∃ k, n = k + 1 := ⟨n - 1, by omega⟩
 have h := verify24_any B1 B2 B3 X m1 m2 m3 k d1 d2 d3 x pr pe pz zs w a3 a4 a5 a1 (by omega) (by rw [← a3]; exact Nat.le_trans hf.1 (by decide)) (by rw [← a4]; exact Nat.le_trans hf.2.1 (by decide)) (by rw [← a5]; exact Nat.le_trans hf.2.2.1 (by decide)) r1 r2 r3 r4 hok (fun x hx => hv _ (List.mem_map_of_mem hx))
 rw [hc] at h
 exact h
end
theorem decode_inS {A Ar : Option Addr} {n c nr cr : Nat} {raw root : List UInt8} {r : Rz} {M1 N M2 M3 : Nat} (w : World) (hl : raw.length = n) (hn : n ≤ 65536) (hlr : root.length = nr) (hnr : nr ≤ 1000000) (hr : Rd w (.slice A n c) 1 n (bvs raw)) (hrr : Rd w (.slice Ar nr cr) 1 nr (bvs root)) (hz : S6.decRz raw root = r) (h1 : r.p.r.length = M1) (h2 : r.p.l.length = N) (h3 : r.p.e.length = M2) (h4 : r.p.z.length = M3) :
  Calls Tryz.prog 26 #[.slice A n c, .slice Ar nr cr] w (TkS w r.c r.p M1 N M2 M3) := by
 have h := S6.decode_any A Ar n c nr cr raw root w hl hn hlr hnr hr hrr
 rw [hz] at h
 exact h.mono fun _ _ h => tkS_of h h1 h2 h3 h4
end Go.Proofs.YtnohmgpmmhlloaaGreatDoor

namespace Go.Proofs.YtnohmgpmmhlloaaGreatDoor
open Go.RowKit
set_option linter.unusedSimpArgs false
theorem v_u8_1 (p : UInt8) : ((p.toNat : Int) + 1) % 256 = ((p + 1).toNat : Int) := by
 rw [UInt8.toNat_add]
 have : (1 : UInt8).toNat = 1 := rfl
 omega
theorem v_u8_2i (p : UInt8) (i : Nat) (hi : i < 256) : ((p.toNat : Int) + 2 + (i : Int)) % 256 = ((p + 2 + UInt8.ofNat i).toNat : Int) := by
 have h1 : (2 : UInt8).toNat = 2 := rfl
 rw [UInt8.toNat_add (p + 2) (UInt8.ofNat i), UInt8.toNat_add p 2, UInt8.toNat_ofNat', h1]
 omega
theorem v_seed_1 (p : UInt8) (w : World) : Calls Tryz.prog 10 #[.int .u8 (((p.toNat : Int) + 1) % 256)] w (BN 32 w (seedW (p + 1))) := by
 rw [v_u8_1]
 exact seed24_any (p + 1) w
theorem enSeedD1 (args : Array Value) (w : World) : (callFunc 10 args).run Tryz.prog w = .ok (.enter 10 args) w := by kernel_rfl
theorem enAppendD1 (args : Array Value) (w : World) : (callFunc 21 args).run Tryz.prog w = .ok (.enter 21 args) w := by kernel_rfl
theorem nil_len1 : ([] : List UInt8).length = 0 := rfl
theorem chainVerifies_walk (p : UInt8) (A1 : Option Addr) (n1 c1 : Nat) (l1 : List UInt8) (Al : Option Addr) (m cl : Nat) (ps : List PcV) (Av : Option Addr) (nv cv : Nat) (vs : List Bool) (se : Bool) (w : World)
  (hl1 : l1.length = n1) (hm : ps.length = m) (hnv : vs.length = nv) (hr1 : Rd w (.slice A1 n1 c1) 1 n1 (bvs l1)) (hrl : Rd w (.slice Al m cl) 1 m (ps.flatMap PcV.cells)) (hps : ∀ q ∈ ps, PcOK w q) (hrv : Rd w (.slice Av nv cv) 1 nv (vs.map Value.bool)) :
  Calls Tryz.prog 7 #[.int .u8 (p.toNat : Int), .slice A1 n1 c1, .slice Al m cl, .slice Av nv cv, .bool se] w fun e w' => e = .returned (.bool true) ∧ Below w.heap.size w w' := by
 have HS := hide (St.init w NoB)
 have HL1 := hide hl1
 have HM := hide hm
 have HNV := hide hnv
 have HR1 := hide hr1
 have HRL := hide hrl
 have HPS := hide hps
 have HRV := hide hrv
 clear hl1 hm hnv hr1 hrl hps hrv
 by_cases h3 : 3 < m
 ·have q1 : decide ((3 : Int) < (m : Int)) = true := by simp; omega
  clear h3
  go_enter Tryz.func7, Tryz.ntmps7
  go_wp2_with (go_at_call 8; (with_reducible refine (awake24_any _).mono ?_); rintro e wy ⟨rfl, hb⟩; have HS := hide (HS.out.call hb))
  go_ret
  exact ⟨rfl, HS.out.below⟩
 have q1 : decide ((3 : Int) < (m : Int)) = false := by simp; omega
 by_cases h2 : 200 < n1
 ·have q2 : decide ((200 : Int) < (n1 : Int)) = true := by simp; omega
  clear h2
  go_enter Tryz.func7, Tryz.ntmps7
  go_wp2_with (go_at_call 8; (with_reducible refine (awake24_any _).mono ?_); rintro e wy ⟨rfl, hb⟩; have HS := hide (HS.out.call hb))
  go_ret
  exact ⟨rfl, HS.out.below⟩
 have q2 : decide ((200 : Int) < (n1 : Int)) = false := by simp; omega
 have SD0 := hide (fun w => seed24_any p w)
 have SD1 := hide (fun w => v_seed_1 p w)
 obtain ⟨root, hroot⟩ : ∃ r, pubL (seedW p) = r := ⟨_, rfl⟩
 have HRO := hide hroot
 have HRL2 := hide (show root.length = 32 by rw [← hroot]; exact pubL_len _)
 have HG0 := hide (gn_issue (seedW p) (seedW (p + 1)) l1 (seedW_len _) (seedW_len _) (by rw [HL1.out]; omega))
 rw [hroot] at HG0
 clear hroot
 go_enter Tryz.func7, Tryz.ntmps7
 have M0 := True.intro
 go_upto_region 4 with (first
  | (clear M3; refine wl_storeC rfl rfl (HS.out.alloc _ _) 0 rfl (vs := [.slice B1 32 d1, .slice X 1 x, .slice B2 32 d2, .slice B3 0 d3]) szToken (Nat.le_refl _) rfl rfl one4 ?_; intro w7 hS7; have HS := hide hS7; clear hS7; have M4 := True.intro)
  | (clear M2; go_at_call 9; (with_reducible refine (issue_in _ (seedW_len _) (seedW_len _) HL1.out (by omega) (HS.out.rd 1 rfl) (HS.out.rd 0 rfl) (HR1.out.below HS.out.below)).mono ?_); rintro e w6 ⟨B1, d1, X, x, B2, d2, B3, d3, G, rfl, hL, hS2⟩; have HL := hide hL; have HS := hide (St.rot _ _ (HS.out.join hS2)); clear hL hS2; have M3 := True.intro)
  | (clear M1; go_at_call 10; (with_reducible refine (SD1.out _).mono ?_); rintro e wy ⟨b2, f2, rfl, hb, ho⟩; have HS := hide (HS.out.row hb ho); clear ho hb; have M2 := True.intro)
  | (clear M0; go_at_call 10; (with_reducible refine (SD0.out _).mono ?_); rintro e wy ⟨b1, f1, rfl, hb, ho⟩; have HS := hide (HS.out.row hb ho); clear ho hb; have M1 := True.intro))
 generalize w6.heap.size = tb at HS ⊢
 have HS : Hid (St w NoB w7 (.cells tb #[.slice B1 32 d1, .slice X 1 x, .slice B2 32 d2, .slice B3 0 d3] 26 :: .row (.slice b2 32 f2) 5 1 32 (bvs (seedW (p + 1))) :: .row (.slice b1 32 f1) 5 1 32 (bvs (seedW p)) :: G)) := HS
 have HL := hide (HL.out.mono (G' := .row (.slice b2 32 f2) 5 1 32 (bvs (seedW (p + 1))) :: .row (.slice b1 32 f1) 5 1 32 (bvs (seedW p)) :: G) (fun c hc => List.mem_cons_of_mem _ (List.mem_cons_of_mem _ hc)))
 generalize .row (.slice b2 32 f2) 5 1 32 (bvs (seedW (p + 1))) :: .row (.slice b1 32 f1) 5 1 32 (bvs (seedW p)) :: G = G0 at HS HL
 generalize issueK (seedW p) (seedW (p + 1)) l1 = p0 at HL HG0
 have t1 : _ = some (Value.slice X 1 x) := HS.out.cell 0 rfl 1
 clear SD1
 go_wp2_with fail
 go_loopw [55] (fun iv wr => ∃ (i : Nat) (P : Tp) (B1 : Option Addr) (d1 : Nat) (X : Option Addr) (x : Nat) (B2 : Option Addr) (d2 : Nat) (B3 : Option Addr) (d3 : Nat) (G : List Chunk), i ≤ m ∧ iv = .int .i64 (i : Int) ∧ Hid (GN root l1 i P) ∧ Hid (Laid G P B1 32 d1 X (i + 1) x B2 32 d2 B3 0 d3) ∧ Hid (St w NoB wr (.cells tb #[.slice B1 32 d1, .slice X (i + 1) x, .slice B2 32 d2, .slice B3 0 d3] 26 :: G))) (fun iv _ => m - (intOf iv).toNat)
 case atStart => exact ⟨0, p0, B1, d1, X, x, B2, d2, B3, d3, G0, by omega, rfl, HG0, HL, HS⟩
 case round =>
  clear HS HL HG0 t1
  obtain ⟨i, P, B1, d1, X, x, B2, d2, B3, d3, G, hi, rfl, HG, HL, HS⟩ := hrel
  by_cases hlt : i < m
  ·have d0 : decide ((i : Int) < (m : Int)) = true := by simp; omega
   have d0' : decide (i < m) = true := by simp; omega
   have im : (i : Int) < (m : Int) := by omega
   have ei : (i : Int) % 256 = (i : Int) := by omega
   obtain ⟨pe, hp⟩ : ∃ q, ps[i]? = some q := ⟨ps[i]'(by rw [HM.out]; exact hlt), List.getElem?_eq_getElem _⟩
   obtain ⟨b, o, hA, hc⟩ := rd_cell (HRL.out.st HS.out) (pcs_get hp)
   subst hA
   have HPE := hide (HPS.out pe (List.mem_of_getElem? hp))
   clear hp
   obtain ⟨E, f, yb⟩ := pe
   have HE : Hid (Rd w (.slice E yb.length f) 1 yb.length (bvs yb)) := HPE
   clear HPE
   by_cases hy : 200 < yb.length
   ·have q3 : decide ((200 : Int) < (yb.length : Int)) = true := by simp; omega
    clear hy
    go_wp2_with (go_at_call 8; (with_reducible refine (awake24_any _).mono ?_); rintro e wy ⟨rfl, hb⟩; have HS := hide (HS.out.call hb))
    go_ret
    exact ⟨rfl, HS.out.below⟩
   have q3 : decide ((200 : Int) < (yb.length : Int)) = false := by simp; omega
   obtain ⟨sb, hsb⟩ : ∃ s : UInt8, p + 2 + UInt8.ofNat i = s := ⟨_, rfl⟩
   have sv1 : (((p.toNat : Int) + 2) % 256 + (i : Int)) % 256 = (sb.toNat : Int) := by rw [← hsb, Int.emod_add_emod]; exact v_u8_2i p i (by omega)
   have sv2 : ((p.toNat : Int) + 2 + (i : Int)) % 256 = (sb.toNat : Int) := by rw [← hsb]; exact v_u8_2i p i (by omega)
   have HSV1 := hide sv1
   have HSV2 := hide sv2
   clear sv1 sv2 hsb
   have SDI := hide (fun w => seed24_any sb w)
   have HYL := hide (show yb.length ≤ 200 by omega)
   have HPR := hide (show P.r.length = 32 by rw [HG.out.r]; exact HRL2.out)
   have HFEW := hide (gn_few HG.out (by rw [HRL2.out]; decide) (by omega))
   obtain ⟨zl, hzl, hzn⟩ := HG.out.good.last
   have HZ32 := hide (show zl.n.length = 32 by rw [hzn]; exact pubL_len _)
   have HVK := hide (show vouK (seedW 200) zl.n yb = pubL (seedW 200) by unfold vouK; rw [if_neg (by rw [seedW_len]; omega), if_neg (by rw [hzn, pubL_len]; omega), if_neg (by omega)])
   have HVV := hide (show vouV (seedW 200) zl.n yb = sigL (seedW 200) (yb ++ zl.n) by unfold vouV; rw [if_neg (by rw [seedW_len]; omega), if_neg (by rw [hzn, pubL_len]; omega), if_neg (by omega)])
   have hvr := sig_right (seedW 200) (yb ++ zl.n)
   have hkl := pubL_len (seedW 200)
   have hvl := sigL_len (seedW 200) (yb ++ zl.n)
   generalize pubL (seedW 200) = K at HVK hvr hkl
   generalize sigL (seedW 200) (yb ++ zl.n) = V at HVV hvr hvl
   have HKL := hide hkl
   have HVL := hide hvl
   have HVR := hide hvr
   have HZL := hide hzl
   clear hzl hzn hkl hvl hvr
   have SD200 : Hid (∀ w, Calls Tryz.prog 10 #[.int .u8 200] w (BN 32 w (seedW 200))) := hide (fun w => seedC 200 (by decide) w)
   go_upto_region 12 with (go_at_call 10; rw [HSV2.out]; (with_reducible refine (SDI.out _).mono ?_); rintro e ws ⟨Bs, ds, rfl, hb, ho⟩; have HS := hide (HS.out.row hb ho); clear ho hb)
   clear HSV1 HSV2 SDI
   have t0 : _ = some (Value.slice B1 32 d1) := HS.out.cell 1 rfl 0
   have t1 : _ = some (Value.slice X (i + 1) x) := HS.out.cell 1 rfl 1
   have t2 : _ = some (Value.slice B2 32 d2) := HS.out.cell 1 rfl 2
   have t3 : _ = some (Value.slice B3 0 d3) := HS.out.cell 1 rfl 3
   have hvc : (decide ((i : Int) < (nv : Int)) = false ∧ decide (i < nv) = false) ∨ (∃ bv vb vo, decide ((i : Int) < (nv : Int)) = true ∧ decide (i < nv) = true ∧ (i : Int) < (nv : Int) ∧ Av = some ⟨vb, vo, none⟩ ∧ ws.cell? ⟨vb, vo + i, none⟩ = some (.bool bv)) := by
    by_cases h : i < nv
    ·obtain ⟨bv, hbv⟩ : ∃ q, vs[i]? = some q := ⟨vs[i]'(by rw [HNV.out]; exact h), List.getElem?_eq_getElem _⟩
     obtain ⟨vb, vo, hA2, hc2⟩ := rd_cell (HRV.out.st HS.out) (show (vs.map Value.bool)[i]? = some (.bool bv) by rw [List.getElem?_map, hbv]; rfl)
     exact .inr ⟨bv, vb, vo, by simp; omega, by simp; omega, by omega, hA2, hc2⟩
    ·exact .inl ⟨by simp; omega, by simp; omega⟩
   -- a state behind the branch
   refine hvc.elim (fun hv => ?nov) (fun hv => ?mv)
   case' mv =>
    obtain ⟨bv, vb, vo, v1, v2, v3, rfl, v4⟩ := hv
    cases bv
    case' false =>
     go_upto_region 15 with fail
     have hg2 := gn_add HG.out (seedW sb) yb [] [] (seedW_len _) HYL.out (by decide) (by decide) (.inl rfl)
     have hrz := gn_rz HG.out (by omega) (seedW sb) yb [] [] (seedW_len _) HYL.out
     have hnew := gn_new HG.out (seedW sb) yb [] []
     generalize addK P (seedW sb) ⟨yb, [], [], [], []⟩ = P2 at hg2 hrz hnew
     have h21 : P2.r.length = 32 := by rw [hg2.r]; exact HRL2.out
     have h22 : P2.l.length = i + 2 := hg2.len
     have h23 : P2.e.length = 32 := hg2.good.e
     have h24 : P2.z.length = 0 := by rw [hg2.good.z]; rfl
     have HG2 := hide hg2
     have HRZ := hide hrz
     have HNEW := hide hnew
     have H21 := hide h21
     have H22 := hide h22
     have H23 := hide h23
     have H24 := hide h24
     clear hg2 hrz hnew h21 h22 h23 h24
     have M0 := True.intro
     go_upto_region 16 with (first
      | (clear M1; refine wl_storeC rfl rfl HS.out 1 rfl (vs := [.slice V1 32 e1, .slice Y (i + 2) y, .slice V2 32 e2, .slice V3 0 e3]) szToken (Nat.le_refl _) rfl rfl one4 ?_; intro wz hS9; have HS := hide hS9.tail; clear hS9; have M2 := True.intro)
      | (clear M0; go_at_call 21; (with_reducible refine (append_in HS.out (HL.out.mono (fun c hc => List.mem_cons_of_mem _ (List.mem_cons_of_mem _ hc))) HFEW.out.sm (seedW_len _) rfl (HS.out.rd 0 rfl) (HE.out.below HS.out.below) HRZ.out H21.out H22.out H23.out H24.out).mono ?_); rintro e w6 ⟨V1, e1, Y, y, V2, e2, V3, e3, G2, rfl, hL2, hS2⟩; have HL2 := hide hL2; have HS := hide (St.rot _ _ (HS.out.join hS2)); clear hL2 hS2 t0 t1 t2 t3; have M1 := True.intro))
    case' true =>
     go_upto_region 13 with fail
     clear t0 t1 t2 t3 v4 v3 v1 v2
     refine wp_region_T [(1, 1), (2, 0), (3, 1), (4, 0), (5, 1), (6, 1), (7, 1), (8, 1), (9, 0), (10, 1), (0, 2), (11, 2), (12, 1), (13, 1), (14, 1), (15, 1), (16, 1)] (by kernel_rfl) (by kernel_rfl) (fun _ _ _ _ h => h) ?_
     have HS := hide HS.out.drew
     generalize ws.drew = wd at HS ⊢
     have t1 : _ = some (Value.slice X (i + 1) x) := HS.out.cell 1 rfl 1
     obtain ⟨zs, hzl2, hzp, _, _, _, _, _, _, rX, hok⟩ := (HL.out.mono (G' := .row (.slice Bs 32 ds) 5 1 32 (bvs (seedW sb)) :: .cells tb #[.slice B1 32 d1, .slice X (i + 1) x, .slice B2 32 d2, .slice B3 0 d3] 26 :: G) (fun c hc => List.mem_cons_of_mem _ (List.mem_cons_of_mem _ hc))).open HS.out
     have kl : i < zs.length := by omega
     have hlk : zs[i]? = some zs[i] := List.getElem?_eq_getElem kl
     have hlast := last_map hzl2 hlk
     rw [hzp, HZL.out] at hlast
     injection hlast with hlast
     obtain ⟨xb, xo, rfl, hb8, hc⟩ := sg_at rX hlk
     obtain ⟨k0, k1, k2, k3, k4⟩ := hc _ (Below.refl _ _)
     have HOX := hide ((hok _ (List.getElem_mem kl)).n)
     generalize zs[i] = zi at k0 k1 k2 k3 k4 hlast HOX
     obtain ⟨⟨E1, f1, y1⟩, ⟨E2, f2, y2⟩, ⟨E3, f3, y3⟩, ⟨E4, f4, y4⟩, ⟨E5, f5, y5⟩⟩ := zi
     subst hlast
     have h32 : y2.length = 32 := HZ32.out
     have HE2 : Hid (Rd wd (.slice E2 32 f2) 1 32 (bvs y2)) := hide (by rw [← h32]; exact HOX.out)
     replace k1 : wd.cell? ⟨xb, xo + i * 5 + 1, none⟩ = some (.slice E2 32 f2) := by rw [← h32]; exact k1
     have HY32 := hide h32
     clear hc hlk kl HOX hok rX hzl2 hzp h32 k0 k2 k3 k4
     have en : ((i + 1 : Nat) : Int) - 1 = (i : Int) := by omega
     have en2 : (i : Int) + 1 - 1 = (i : Int) := by omega
     have nn : (i : Int) < (i : Int) + 1 := by omega
     have nn2 : i < i + 1 := by omega
     have nn3 : decide ((i : Int) < (i : Int) + 1) = true := by simp; omega
     have nn4 : decide (i < i + 1) = true := by simp
     have M0 := True.intro
     go_upto_region 14 with (first
      | (clear M1; go_at_call 15; (with_reducible refine (vouch_inS _ (seedW_len _) HY32.out rfl (Nat.le_trans HYL.out (by decide)) (HS.out.rd 0 rfl) HE2.out (HE.out.below HS.out.below) HVK.out HVV.out HKL.out HVL.out).mono ?_); rintro e wv ⟨Bk, dk, Bv, dv, rfl, hSv⟩; have hb := hSv.below; have HS := hide (HS.out.join hSv); clear hSv; have M2 := True.intro)
      | (clear M0; go_at_call 10; (with_reducible refine (SD200.out _).mono ?_); rintro e wy ⟨B200, d200, rfl, hb, ho⟩; have HS := hide (HS.out.row hb ho); have HE2 := hide (HE2.out.below hb); clear ho; have M1 := True.intro)
      | (refine wpT_nil ?_)   | ((with_reducible refine fromT_refl ?_); (try simp only [Act.put, nq1, nq2, nq3, nq4, nq5, nq6]))   | ((with_reducible refine fromT_mk (by assumption) ?_); (try simp only [Act.put, nq1, nq2, nq3, nq4, nq5, nq6]))   | (refine wpT_pure (v := ?_) rfl rfl ?_ ?_; rotate_left; (intro wx; go_simp; try go_bits) <;> (with_reducible rfl); (try simp only [Act.put, nq1, nq2, nq3, nq4, nq5, nq6]))   | (refine wpT_load (v := ?_) rfl rfl rfl ?_ ?_; rotate_left; (go_simp; try go_bits) <;> (with_reducible rfl); (try simp only [Act.put, nq1, nq2, nq3, nq4, nq5, nq6]))   | (refine wpT_read (v := ?_) rfl rfl ?_ ?_; rotate_left; (intro wx hx; go_simp; try go_bits) <;> (with_reducible rfl); (try simp only [Act.put, nq1, nq2, nq3, nq4, nq5, nq6]))   | (refine wpT_call rfl rfl ?_; intro K hK)   | (refine wpT_late rfl rfl ?_; intro K hK)   | (refine wpT_any rfl rfl ?_; intro K hK)   | (refine wpT_skip rfl rfl ?_; (try simp only [Act.put, nq1, nq2, nq3, nq4, nq5, nq6])))
     have HS : Hid (St w NoB wv (.row (.slice Bk 32 dk) 5 1 32 (bvs K) :: .row (.slice Bv 64 dv) 5 1 64 (bvs V) :: .row (.slice B200 32 d200) 5 1 32 (bvs (seedW 200)) :: .row (.slice Bs 32 ds) 5 1 32 (bvs (seedW sb)) :: .cells tb #[.slice B1 32 d1, .slice (some ⟨xb, xo, none⟩) (i + 1) x, .slice B2 32 d2, .slice B3 0 d3] 26 :: G)) := HS
     clear t1 k1 en en2 nn nn2 nn3 nn4 M2
     have t0 : _ = some (Value.slice B1 32 d1) := HS.out.cell 4 rfl 0
     have t1 : _ = some (Value.slice (some ⟨xb, xo, none⟩) (i + 1) x) := HS.out.cell 4 rfl 1
     have t2 : _ = some (Value.slice B2 32 d2) := HS.out.cell 4 rfl 2
     have t3 : _ = some (Value.slice B3 0 d3) := HS.out.cell 4 rfl 3
     have hg2 := gn_add HG.out (seedW sb) yb K V (seedW_len _) HYL.out (by rw [HKL.out]; decide) (by rw [HVL.out]; decide) (.inr ⟨_, HZL.out, HVR.out⟩)
     have hrz := (av_32 HKL.out HVL.out).trans (gn_rz HG.out (by omega) (seedW sb) yb K V (seedW_len _) HYL.out)
     have hnew := gn_new HG.out (seedW sb) yb K V
     generalize addK P (seedW sb) ⟨yb, [], [], K, V⟩ = P2 at hg2 hrz hnew
     have h21 : P2.r.length = 32 := by rw [hg2.r]; exact HRL2.out
     have h22 : P2.l.length = i + 2 := hg2.len
     have h23 : P2.e.length = 32 := hg2.good.e
     have h24 : P2.z.length = 0 := by rw [hg2.good.z]; rfl
     have HG2 := hide hg2
     have HRZ := hide hrz
     have HNEW := hide hnew
     have H21 := hide h21
     have H22 := hide h22
     have H23 := hide h23
     have H24 := hide h24
     clear hg2 hrz hnew h21 h22 h23 h24
     have M0 := True.intro
     go_upto_region 16 with (first
      | (clear M1; refine wl_storeC rfl rfl HS.out 4 rfl (vs := [.slice V1 32 e1, .slice Y (i + 2) y, .slice V2 32 e2, .slice V3 0 e3]) szToken (Nat.le_refl _) rfl rfl one4 ?_; intro wz hS9; have HS := hide hS9.tail.tail.tail.tail; clear hS9; have M2 := True.intro)
      | (clear M0; go_at_call 17; (with_reducible refine (av_in HS.out (HL.out.mono (fun c hc => List.mem_cons_of_mem _ (List.mem_cons_of_mem _ (List.mem_cons_of_mem _ (List.mem_cons_of_mem _ (List.mem_cons_of_mem _ hc)))))) HFEW.out (seedW_len _) rfl HKL.out HVL.out (HS.out.rd 3 rfl) (HE.out.below HS.out.below) (HS.out.rd 0 rfl) (HS.out.rd 1 rfl) HRZ.out H21.out H22.out H23.out H24.out).mono ?_); rintro e w6 ⟨V1, e1, Y, y, V2, e2, V3, e3, G2, rfl, hL2, hS2⟩; have HL2 := hide hL2; have HS := hide (St.rot _ _ (HS.out.join hS2)); clear hL2 hS2 t0 t1 t2 t3; have M1 := True.intro))
   case' nov =>
    obtain ⟨v1, v2⟩ := hv
    go_upto_region 15 with fail
    have hg2 := gn_add HG.out (seedW sb) yb [] [] (seedW_len _) HYL.out (by decide) (by decide) (.inl rfl)
    have hrz := gn_rz HG.out (by omega) (seedW sb) yb [] [] (seedW_len _) HYL.out
    have hnew := gn_new HG.out (seedW sb) yb [] []
    generalize addK P (seedW sb) ⟨yb, [], [], [], []⟩ = P2 at hg2 hrz hnew
    have h21 : P2.r.length = 32 := by rw [hg2.r]; exact HRL2.out
    have h22 : P2.l.length = i + 2 := hg2.len
    have h23 : P2.e.length = 32 := hg2.good.e
    have h24 : P2.z.length = 0 := by rw [hg2.good.z]; rfl
    have HG2 := hide hg2
    have HRZ := hide hrz
    have HNEW := hide hnew
    have H21 := hide h21
    have H22 := hide h22
    have H23 := hide h23
    have H24 := hide h24
    clear hg2 hrz hnew h21 h22 h23 h24
    have M0 := True.intro
    go_upto_region 16 with (first
     | (clear M1; refine wl_storeC rfl rfl HS.out 1 rfl (vs := [.slice V1 32 e1, .slice Y (i + 2) y, .slice V2 32 e2, .slice V3 0 e3]) szToken (Nat.le_refl _) rfl rfl one4 ?_; intro wz hS9; have HS := hide hS9.tail; clear hS9; have M2 := True.intro)
     | (clear M0; go_at_call 21; (with_reducible refine (append_in HS.out (HL.out.mono (fun c hc => List.mem_cons_of_mem _ (List.mem_cons_of_mem _ hc))) HFEW.out.sm (seedW_len _) rfl (HS.out.rd 0 rfl) (HE.out.below HS.out.below) HRZ.out H21.out H22.out H23.out H24.out).mono ?_); rintro e w6 ⟨V1, e1, Y, y, V2, e2, V3, e3, G2, rfl, hL2, hS2⟩; have HL2 := hide hL2; have HS := hide (St.rot _ _ (HS.out.join hS2)); clear hL2 hS2 t0 t1 t2 t3; have M1 := True.intro))
   all_goals
    have HS : Hid (St w NoB wz (.cells tb #[.slice V1 32 e1, .slice Y (i + 2) y, .slice V2 32 e2, .slice V3 0 e3] 26 :: (G ++ G2))) := HS
    refine wp_region_T [(0, 1), (1, 1), (2, 1), (3, 1), (4, 0), (5, 1), (6, 1), (7, 1), (8, 1), (9, 1), (10, 1), (11, 1), (12, 0), (13, 1), (14, 1), (15, 1), (16, 1), (17, 0), (18, 0), (19, 1), (20, 0), (21, 1), (22, 1)] (by kernel_rfl) (by kernel_rfl) (fun _ _ _ _ h => h) ?_
    have HS := hide HS.out.drew
    generalize wz.drew = wq at HS ⊢
    have HL2 := hide (HL2.out.mono (G' := G ++ G2) (fun c hc => List.mem_append_right _ hc))
    obtain ⟨x', hx', hxb⟩ := HNEW.out
    obtain ⟨zs2, hzl2, hzp, _, _, _, _, _, _, rX, hok⟩ := HL2.out.open HS.out.tail
    have kl : i + 1 < zs2.length := by omega
    have hlk : zs2[i + 1]? = some zs2[i + 1] := List.getElem?_eq_getElem kl
    have hxe : (zs2.map Sg.p)[i + 1]? = some (zs2[i + 1]).p := by rw [List.getElem?_map, hlk]; rfl
    rw [hzp, hx'] at hxe
    injection hxe with hxe
    obtain ⟨xb2, xo2, rfl, hb9, hc9⟩ := sg_at rX hlk
    obtain ⟨k0, k1, k2, k3, k4⟩ := hc9 _ (Below.refl _ _)
    clear hc9
    have HOX := hide ((hok _ (List.getElem_mem kl)).b)
    generalize zs2[i + 1] = zi at k0 k1 k2 k3 k4 hxe HOX
    subst hxe
    obtain ⟨⟨E1, f1, y1⟩, _, _, _, _⟩ := zi
    replace hxb : y1 = yb := hxb
    subst hxb
    replace k0 : wq.cell? ⟨xb2, xo2 + (i + 1) * 5, none⟩ = some (.slice E1 y1.length f1) := k0
    have HE1 : Hid (Rd wq (.slice E1 y1.length f1) 1 y1.length (bvs y1)) := HOX
    clear HOX hok rX hzl2 hzp k1 k2 k3 k4 hx' hlk kl
    have t1 : _ = some (Value.slice (some ⟨xb2, xo2, none⟩) (i + 2) y) := HS.out.cell 0 rfl 1
    have cv1 := fun x (hx : From wq x) => run_str (P := Tryz.prog) Tryz.underlying22 Tryz.underlying5 Tryz.underlying9 (HE1.out.below hx)
    have cv2 := fun x (hx : From wq x) => run_str (P := Tryz.prog) Tryz.underlying22 Tryz.underlying5 Tryz.underlying9 ((HE.out.below HS.out.below).below hx)
    have nn : (i : Int) + 1 < (i : Int) + 2 := by omega
    have nn2 : i + 1 < i + 2 := by omega
    have nn3 : decide ((i : Int) + 1 < (i : Int) + 2) = true := by simp
    have nn4 : decide (i + 1 < i + 2) = true := by simp
    have n0 : (0 : Int) ≤ (i : Int) + 1 := by omega
    have n0' : ¬ ((i : Int) + 1 < 0) := by omega
    have n0b : decide ((0 : Int) ≤ (i : Int) + 1) = true := by simp; omega
    have tn : ((i : Int) + 1).toNat = i + 1 := by omega
    go_wp2_with (first | (refine wpT_nil ?_)   | ((with_reducible refine fromT_refl ?_); (try simp only [Act.put, nq1, nq2, nq3, nq4, nq5, nq6]))   | ((with_reducible refine fromT_mk (by assumption) ?_); (try simp only [Act.put, nq1, nq2, nq3, nq4, nq5, nq6]))   | (refine wpT_pure (v := ?_) rfl rfl ?_ ?_; rotate_left; (intro wx; go_simp; try go_bits) <;> (with_reducible rfl); (try simp only [Act.put, nq1, nq2, nq3, nq4, nq5, nq6]))   | (refine wpT_load (v := ?_) rfl rfl rfl ?_ ?_; rotate_left; (go_simp; try go_bits) <;> (with_reducible rfl); (try simp only [Act.put, nq1, nq2, nq3, nq4, nq5, nq6]))   | (refine wpT_read (v := ?_) rfl rfl ?_ ?_; rotate_left; (intro wx hx; go_simp; try go_bits) <;> (with_reducible rfl); (try simp only [Act.put, nq1, nq2, nq3, nq4, nq5, nq6]))   | (refine wpT_call rfl rfl ?_; intro K hK)   | (refine wpT_late rfl rfl ?_; intro K hK)   | (refine wpT_any rfl rfl ?_; intro K hK)   | (refine wpT_skip rfl rfl ?_; (try simp only [Act.put, nq1, nq2, nq3, nq4, nq5, nq6])))
    go_roundw
    case rel => exact ⟨i + 1, P2, V1, e1, some ⟨xb2, xo2, none⟩, y, V2, e2, V3, e3, G ++ G2, by omega, by go_num, HG2, HL2, HS⟩
    case measure => (simp [intOf]) <;> omega
  ·obtain rfl : i = m := by omega
   have d0 : decide ((i : Int) < (i : Int)) = false := by simp
   have d0' : decide (i < i) = false := by simp
   have t0 : _ = some (Value.slice B1 32 d1) := HS.out.cell 0 rfl 0
   have t1 : _ = some (Value.slice X (i + 1) x) := HS.out.cell 0 rfl 1
   have t2 : _ = some (Value.slice B2 32 d2) := HS.out.cell 0 rfl 2
   have t3 : _ = some (Value.slice B3 0 d3) := HS.out.cell 0 rfl 3
   cases se
   case' true =>
    obtain ⟨P2, hrz, hend, he0, hz64, hadd, hsl⟩ := gn_seal HG.out (by rw [HRL2.out]; decide) (by omega)
    have HFEW := hide (gn_few HG.out (by rw [HRL2.out]; decide) (by omega))
    have HRZ := hide hrz
    have HEND := hide hend
    have HAD := hide (hadd (seedW 1) (seedW_len _))
    have HSL := hide hsl
    have H21 := hide (show P2.r.length = 32 by rw [hend.r]; exact HRL2.out)
    have H23 := hide (show P2.e.length = 0 by rw [he0]; rfl)
    have H24 := hide hz64
    have HSM := hide hend.few.sm
    have HF2 := hide hend.few
    have SDA : Hid (∀ w, Calls Tryz.prog 10 #[.int .u8 1] w (BN 32 w (seedW 1))) := hide (fun w => seedC 1 (by decide) w)
    clear hrz hend he0 hz64 hadd hsl
    have M0 := True.intro
    go_upto_region 23 with (first
     | (clear M1; refine wl_storeC rfl rfl HS.out 0 rfl (vs := [.slice V1 32 e1, .slice Y (i + 1) y, .slice V2 0 e2, .slice V3 64 e3]) szToken (Nat.le_refl _) rfl rfl one4 ?_; intro wz hS9; have HS := hide hS9; clear hS9; have M2 := True.intro)
     | (clear M0; go_at_call 19; (with_reducible refine (seal_in HS.out (HL.out.mono (fun c hc => List.mem_cons_of_mem _ hc)) HFEW.out HRZ.out H21.out HEND.out.len H23.out H24.out).mono ?_); rintro e w6 ⟨V1, e1, Y, y, V2, e2, V3, e3, G2, rfl, hL2, hS2⟩; have HL2 := hide hL2; have HS := hide (St.rot _ _ (HS.out.join hS2)); clear hL2 hS2 t0 t1 t2 t3; have M1 := True.intro))
    have HS : Hid (St w NoB wz (.cells tb #[.slice V1 32 e1, .slice Y (i + 1) y, .slice V2 0 e2, .slice V3 64 e3] 26 :: (G ++ G2))) := HS
    have HL := hide (HL2.out.mono (G' := G ++ G2) (fun c hc => List.mem_append_right _ hc))
    generalize G ++ G2 = G3 at HS HL
    clear HL2 M2 HRZ HFEW
    go_cut [19] (fun a wx => a = .int .i64 13 ∧ Hid (St w NoB wx (.cells tb #[.slice V1 32 e1, .slice Y (i + 1) y, .slice V2 0 e2, .slice V3 64 e3] 26 :: G3)))
    case first =>
     refine wp_region_S (.op 0 0 (.two 1 6 (.two 2 6 (.op 3 1 (.op 4 1 (.op 5 1 (.op 6 2 (.op 7 2 (.op 8 1 (.nil))))))) (.op 2 2 (.op 3 1 (.op 4 1 (.op 5 1 (.op 7 2 (.op 8 1 (.nil)))))))) (.op 1 2 (.op 2 2 (.op 3 1 (.op 4 1 (.op 5 1 (.op 7 2 (.op 8 1 (.nil)))))))))) (by kernel_rfl) (by kernel_rfl) (fun _ _ _ _ h => h) ?_
     have HS := hide HS.out.drew
     generalize World.drew _ = w3 at HS ⊢
     have t0 : _ = some (Value.slice V1 32 e1) := HS.out.cell 0 rfl 0
     have t1 : _ = some (Value.slice Y (i + 1) y) := HS.out.cell 0 rfl 1
     have t2 : _ = some (Value.slice V2 0 e2) := HS.out.cell 0 rfl 2
     have t3 : _ = some (Value.slice V3 64 e3) := HS.out.cell 0 rfl 3
     have HTL := hide (HL.out.mono (G' := .cells tb #[.slice V1 32 e1, .slice Y (i + 1) y, .slice V2 0 e2, .slice V3 64 e3] 26 :: G3) (fun c hc => List.mem_cons_of_mem _ hc))
     have HA := hide (St.init w3 NoB)
     go_wp2_with (first | (refine wpS_nil ?_)   | ((with_reducible refine fromT_refl ?_); (try simp only [Act.put, nq1, nq2, nq3, nq4, nq5, nq6]))   | ((with_reducible refine fromT_mk (by assumption) ?_); (try simp only [Act.put, nq1, nq2, nq3, nq4, nq5, nq6]))   | (refine wpS_pure (v := ?_) rfl rfl ?_ ?_; rotate_left; (intro wx; go_simp; try go_bits) <;> (with_reducible rfl); (try simp only [Act.put, nq1, nq2, nq3, nq4, nq5, nq6]))   | (refine wpS_load (v := ?_) rfl rfl rfl ?_ ?_; rotate_left; (go_simp; try go_bits) <;> (with_reducible rfl); (try simp only [Act.put, nq1, nq2, nq3, nq4, nq5, nq6]))   | (refine wpS_read (v := ?_) rfl rfl ?_ ?_; rotate_left; (intro wx hx; go_simp; try go_bits) <;> (with_reducible rfl); (try simp only [Act.put, nq1, nq2, nq3, nq4, nq5, nq6]))   | (refine wpS_call rfl rfl ?_; intro K hK)   | (refine wpS_late rfl rfl ?_; intro K hK)   | (refine wpS_any rfl rfl ?_; intro K hK)   | (refine wpS_skip rfl rfl ?_; (try simp only [Act.put, nq1, nq2, nq3, nq4, nq5, nq6])))
     refine wpS_two ?_ ?_
     ·refine wpS_call rfl rfl ?_; intro K hK; refine wp_call rfl enSeedD1 rfl (SDA.out _) ?_; rintro e wy ⟨Bs, ds, rfl, hb, ho⟩; refine ⟨_, rfl, ?_⟩; have HA := hide (HA.out.row hb ho); clear hb ho; refine hK _ _ (fromT_mk HA.out.below ?_); (try simp only [Act.put, nq1, nq2, nq3, nq4, nq5, nq6])
      refine wpS_two ?_ ?_
      ·refine wpS_call rfl rfl ?_; intro K hK; refine wp_call rfl enAppendD1 rfl (append_in (HS.out.call HA.out.below) HTL.out HSM.out (seedW_len _) nil_len1 (HA.out.rd 0 rfl) (rd_nil _ 1) HAD.out z01 z02 z03 z04) ?_; rintro e wy ⟨V1, e1, Y, y, V2, e2, V3, e3, G2, rfl, hL2, hS2⟩; refine ⟨_, rfl, ?_⟩; have HA := hide (St.rot _ _ (HA.out.join hS2)); clear hL2 hS2; refine hK _ _ (fromT_mk HA.out.below ?_); (try simp only [Act.put, nq1, nq2, nq3, nq4, nq5, nq6])
       (refine wpS_pure (v := ?_) rfl rfl ?_ ?_; rotate_left; (intro wx; go_simp; try go_bits) <;> (with_reducible rfl)); (try simp only [Act.put, nq1, nq2, nq3, nq4, nq5, nq6])
       (refine wpS_pure (v := ?_) rfl rfl ?_ ?_; rotate_left; (intro wx; go_simp; try go_bits) <;> (with_reducible rfl)); (try simp only [Act.put, nq1, nq2, nq3, nq4, nq5, nq6])
       (refine wpS_pure (v := ?_) rfl rfl ?_ ?_; rotate_left; (intro wx; go_simp; try go_bits) <;> (with_reducible rfl)); (try simp only [Act.put, nq1, nq2, nq3, nq4, nq5, nq6])
       refine wpS_call rfl rfl ?_; intro K hK; (show Oper.wp _ _ _ _ _ _); (unfold Oper.wp; go_simp); have HA := hide (HA.out.alloc #[.slice none 0 0, .slice none 0 0, .slice none 0 0, .slice none 0 0] 26); generalize World.alloc _ _ = wl at HA ⊢; refine hK _ _ (fromT_mk HA.out.below ?_); (try simp only [Act.put, nq1, nq2, nq3, nq4, nq5, nq6])
       refine wpS_call rfl rfl ?_; intro K hK; refine wp_storeC rfl HA.out 0 rfl (vs := [.slice V1 0 e1, .slice Y 0 y, .slice V2 0 e2, .slice V3 0 e3]) szToken (Nat.le_refl _) rfl rfl one4 ?_; intro wz hS9; have HA := hide hS9; clear hS9; refine hK _ _ (fromT_mk HA.out.below ?_); (try simp only [Act.put, nq1, nq2, nq3, nq4, nq5, nq6])
       (refine wpS_pure (v := ?_) rfl rfl ?_ ?_; rotate_left; (intro wx; go_simp; try go_bits) <;> (with_reducible rfl)); (try simp only [Act.put, nq1, nq2, nq3, nq4, nq5, nq6])
       refine wpS_nil ?_
       go_wp2_with fail
       go_meet
       exact ⟨rfl, hide (HS.out.call HA.out.below)⟩
      ·refine wpS_call rfl rfl ?_; intro K hK; (show Oper.wp _ _ _ _ _ _); (unfold Oper.wp; go_simp); have HA := hide (HA.out.alloc #[.slice none 0 0, .slice none 0 0, .slice none 0 0, .slice none 0 0] 26); generalize World.alloc _ _ = wl at HA ⊢; refine hK _ _ (fromT_mk HA.out.below ?_); (try simp only [Act.put, nq1, nq2, nq3, nq4, nq5, nq6])
       refine wpS_call rfl rfl ?_; intro K hK; refine wp_call rfl enAppendD1 rfl (append_in (HS.out.call HA.out.below) HTL.out HSM.out (seedW_len _) nil_len1 (HA.out.rd 1 rfl) (rd_nil _ 1) HAD.out z01 z02 z03 z04) ?_; rintro e wy ⟨V1, e1, Y, y, V2, e2, V3, e3, G2, rfl, hL2, hS2⟩; refine ⟨_, rfl, ?_⟩; have HA := hide (St.rot _ _ (HA.out.join hS2)); clear hL2 hS2; refine hK _ _ (fromT_mk HA.out.below ?_); (try simp only [Act.put, nq1, nq2, nq3, nq4, nq5, nq6])
       (refine wpS_pure (v := ?_) rfl rfl ?_ ?_; rotate_left; (intro wx; go_simp; try go_bits) <;> (with_reducible rfl)); (try simp only [Act.put, nq1, nq2, nq3, nq4, nq5, nq6])
       (refine wpS_pure (v := ?_) rfl rfl ?_ ?_; rotate_left; (intro wx; go_simp; try go_bits) <;> (with_reducible rfl)); (try simp only [Act.put, nq1, nq2, nq3, nq4, nq5, nq6])
       (refine wpS_pure (v := ?_) rfl rfl ?_ ?_; rotate_left; (intro wx; go_simp; try go_bits) <;> (with_reducible rfl)); (try simp only [Act.put, nq1, nq2, nq3, nq4, nq5, nq6])
       refine wpS_call rfl rfl ?_; intro K hK; refine wp_storeC rfl HA.out 0 rfl (vs := [.slice V1 0 e1, .slice Y 0 y, .slice V2 0 e2, .slice V3 0 e3]) szToken (Nat.le_refl _) rfl rfl one4 ?_; intro wz hS9; have HA := hide hS9; clear hS9; refine hK _ _ (fromT_mk HA.out.below ?_); (try simp only [Act.put, nq1, nq2, nq3, nq4, nq5, nq6])
       (refine wpS_pure (v := ?_) rfl rfl ?_ ?_; rotate_left; (intro wx; go_simp; try go_bits) <;> (with_reducible rfl)); (try simp only [Act.put, nq1, nq2, nq3, nq4, nq5, nq6])
       refine wpS_nil ?_
       go_wp2_with fail
       go_meet
       exact ⟨rfl, hide (HS.out.call HA.out.below)⟩
     ·refine wpS_call rfl rfl ?_; intro K hK; (show Oper.wp _ _ _ _ _ _); (unfold Oper.wp; go_simp); have HA := hide (HA.out.alloc #[.slice none 0 0, .slice none 0 0, .slice none 0 0, .slice none 0 0] 26); generalize World.alloc _ _ = wl at HA ⊢; refine hK _ _ (fromT_mk HA.out.below ?_); (try simp only [Act.put, nq1, nq2, nq3, nq4, nq5, nq6])
      refine wpS_call rfl rfl ?_; intro K hK; refine wp_call rfl enSeedD1 rfl (SDA.out _) ?_; rintro e wy ⟨Bs, ds, rfl, hb, ho⟩; refine ⟨_, rfl, ?_⟩; have HA := hide (HA.out.row hb ho); clear hb ho; refine hK _ _ (fromT_mk HA.out.below ?_); (try simp only [Act.put, nq1, nq2, nq3, nq4, nq5, nq6])
      refine wpS_call rfl rfl ?_; intro K hK; refine wp_call rfl enAppendD1 rfl (append_in (HS.out.call HA.out.below) HTL.out HSM.out (seedW_len _) nil_len1 (HA.out.rd 0 rfl) (rd_nil _ 1) HAD.out z01 z02 z03 z04) ?_; rintro e wy ⟨V1, e1, Y, y, V2, e2, V3, e3, G2, rfl, hL2, hS2⟩; refine ⟨_, rfl, ?_⟩; have HA := hide (St.rot _ _ (HA.out.join hS2)); clear hL2 hS2; refine hK _ _ (fromT_mk HA.out.below ?_); (try simp only [Act.put, nq1, nq2, nq3, nq4, nq5, nq6])
      (refine wpS_pure (v := ?_) rfl rfl ?_ ?_; rotate_left; (intro wx; go_simp; try go_bits) <;> (with_reducible rfl)); (try simp only [Act.put, nq1, nq2, nq3, nq4, nq5, nq6])
      (refine wpS_pure (v := ?_) rfl rfl ?_ ?_; rotate_left; (intro wx; go_simp; try go_bits) <;> (with_reducible rfl)); (try simp only [Act.put, nq1, nq2, nq3, nq4, nq5, nq6])
      (refine wpS_pure (v := ?_) rfl rfl ?_ ?_; rotate_left; (intro wx; go_simp; try go_bits) <;> (with_reducible rfl)); (try simp only [Act.put, nq1, nq2, nq3, nq4, nq5, nq6])
      refine wpS_call rfl rfl ?_; intro K hK; refine wp_storeC rfl HA.out 1 rfl (vs := [.slice V1 0 e1, .slice Y 0 y, .slice V2 0 e2, .slice V3 0 e3]) szToken (Nat.le_refl _) rfl rfl one4 ?_; intro wz hS9; have HA := hide hS9; clear hS9; refine hK _ _ (fromT_mk HA.out.below ?_); (try simp only [Act.put, nq1, nq2, nq3, nq4, nq5, nq6])
      (refine wpS_pure (v := ?_) rfl rfl ?_ ?_; rotate_left; (intro wx; go_simp; try go_bits) <;> (with_reducible rfl)); (try simp only [Act.put, nq1, nq2, nq3, nq4, nq5, nq6])
      refine wpS_nil ?_
      go_wp2_with fail
      go_meet
      exact ⟨rfl, hide (HS.out.call HA.out.below)⟩
    case' rest =>
     clear HS
     obtain ⟨rfl, HS⟩ := hcut
     have t0 : _ = some (Value.slice V1 32 e1) := HS.out.cell 0 rfl 0
     have t1 : _ = some (Value.slice Y (i + 1) y) := HS.out.cell 0 rfl 1
     have t2 : _ = some (Value.slice V2 0 e2) := HS.out.cell 0 rfl 2
     have t3 : _ = some (Value.slice V3 64 e3) := HS.out.cell 0 rfl 3
     have M0 := True.intro
     go_upto_region 27 with (first
      | (clear M1; refine wl_storeC rfl rfl (HS.out.alloc _ _) 0 rfl (vs := [.slice W1 0 g1, .slice Z 0 z, .slice W2 0 g2, .slice W3 0 g3]) szToken (Nat.le_refl _) rfl rfl one4 ?_; intro wT hS9; have HS := hide hS9.tail; clear hS9; have M2 := True.intro)
      | (clear M0; go_at_call 19; (with_reducible refine (seal_in HS.out (HL.out.mono (fun c hc => List.mem_cons_of_mem _ hc)) HF2.out HSL.out z01 z02 z03 z04).mono ?_); rintro e w8 ⟨W1, g1, Z, z, W2, g2, W3, g3, G4, rfl, hL4, hS4⟩; have HS := hide (St.rot _ _ (HS.out.join hS4)); clear hL4 hS4 t0 t1 t2 t3; have M1 := True.intro))
     obtain ⟨me, hme⟩ : ∃ q, q = 0 := ⟨_, rfl⟩
     obtain ⟨mz, hmz⟩ : ∃ q, q = 64 := ⟨_, rfl⟩
     have HS : Hid (St w NoB wT (.cells tb #[.slice V1 32 e1, .slice Y (i + 1) y, .slice V2 me e2, .slice V3 mz e3] 26 :: (G3 ++ G4))) := by subst hme hmz; exact HS
     have HL : Hid (Laid (G3 ++ G4) P2 V1 32 e1 Y (i + 1) y V2 me e2 V3 mz e3) := by subst hme hmz; exact hide (HL.out.mono (fun c hc => List.mem_append_left _ hc))
     have H23 : Hid (P2.e.length = me) := by subst hme; exact H23
     have H24 : Hid (P2.z.length = mz) := by subst hmz; exact H24
     clear M2 hme hmz HAD HSL
     generalize G3 ++ G4 = GT at HS HL
   case' false =>
    go_upto_region 27 with fail
    clear t0 t1 t2 t3
    obtain ⟨me, hme⟩ : ∃ q, q = 32 := ⟨_, rfl⟩
    obtain ⟨mz, hmz⟩ : ∃ q, q = 0 := ⟨_, rfl⟩
    have HEND := hide (gn_end HG.out (by rw [HRL2.out]; decide) (by omega))
    have H21 := hide (show P.r.length = 32 by rw [HG.out.r]; exact HRL2.out)
    have H23 : Hid (P.e.length = me) := by subst hme; exact hide HG.out.good.e
    have H24 : Hid (P.z.length = mz) := by subst hmz; exact hide (by rw [HG.out.good.z]; rfl)
    have HF2 := hide HEND.out.few
    have HS : Hid (St w NoB wr (.cells tb #[.slice B1 32 d1, .slice X (i + 1) x, .slice B2 me d2, .slice B3 mz d3] 26 :: G)) := by subst hme hmz; exact HS
    have HL : Hid (Laid G P B1 32 d1 X (i + 1) x B2 me d2 B3 mz d3) := by subst hme hmz; exact HL
    clear hme hmz HG
    generalize wr = wT at *
    generalize P = P2 at *
    generalize G = GT at *
    generalize B1 = V1 at *
    generalize d1 = e1 at *
    generalize X = Y at *
    generalize x = y at *
    generalize B2 = V2 at *
    generalize d2 = e2 at *
    generalize B3 = V3 at *
    generalize d3 = e3 at *
   all_goals
    have t0 : _ = some (Value.slice V1 32 e1) := HS.out.cell 0 rfl 0
    have t1 : _ = some (Value.slice Y (i + 1) y) := HS.out.cell 0 rfl 1
    have t2 : _ = some (Value.slice V2 me e2) := HS.out.cell 0 rfl 2
    have t3 : _ = some (Value.slice V3 mz e3) := HS.out.cell 0 rfl 3
    obtain ⟨q, hq⟩ : ∃ q, (S6.encL P2).length = q := ⟨_, rfl⟩
    have HQ := hide hq
    have HQ2 := hide (show q ≤ 65536 by rw [← hq]; exact HEND.out.q)
    clear hq
    have M0 := True.intro
    go_upto_region 29 with (first
     | (clear M4; refine wl_storeC rfl rfl (HS.out.alloc _ _) 0 rfl (vs := [.slice U1 32 f1, .slice Z (i + 1) z, .slice U2 me f2, .slice U3 mz f3]) szToken (Nat.le_refl _) rfl rfl one4 ?_; intro wz9 hS9; have HS := hide hS9; clear hS9; have M5 := True.intro)
     | (clear M3; go_at_call 26; (with_reducible refine (decode_inS _ HQ.out HQ2.out HRL2.out (by decide) (HS.out.rd 2 rfl) (HS.out.rd 0 rfl) HEND.out.dec H21.out HEND.out.len H23.out H24.out).mono ?_); rintro e w9 ⟨U1, f1, Z, z, U2, f2, U3, f3, G5, rfl, hL5, hS5⟩; have HL5 := hide hL5; have HS := hide (St.rot _ _ (HS.out.join hS5)); clear hL5 hS5; have M4 := True.intro)
     | (clear M2; go_at_call 11; (with_reducible refine (pub_32 _ _ _ _ (seedW_len _) (HS.out.rd 0 rfl)).mono ?_); rintro e w8 ⟨Bp, dp, rfl, hb, ho⟩; rw [HRO.out] at ho; have HS := hide (HS.out.row hb ho); clear ho hb; have M3 := True.intro)
     | (clear M1; go_at_call 10; (with_reducible refine (SD0.out _).mono ?_); rintro e w7 ⟨Bs, ds, rfl, hb, ho⟩; have HS := hide (HS.out.row hb ho); clear ho hb; have M2 := True.intro)
     | (clear M0; go_at_call 24; (with_reducible refine (encode_in HS.out (HL.out.mono (fun c hc => List.mem_cons_of_mem _ hc)) HEND.out.tiny HQ.out HQ2.out).mono ?_); rintro e w6 ⟨Be, de, rfl, hb, ho⟩; have HS := hide (HS.out.row hb ho); clear ho hb t0 t1 t2 t3; have M1 := True.intro))
    generalize w9.heap.size = ub at HS ⊢
    have HS : Hid (St w NoB wz9 (.cells ub #[.slice U1 32 f1, .slice Z (i + 1) z, .slice U2 me f2, .slice U3 mz f3] 26 :: .row (.slice Bp 32 dp) 5 1 32 (bvs root) :: .row (.slice Bs 32 ds) 5 1 32 (bvs (seedW p)) :: .row (.slice Be q de) 5 1 q (bvs (S6.encL P2)) :: .cells tb #[.slice V1 32 e1, .slice Y (i + 1) y, .slice V2 me e2, .slice V3 mz e3] 26 :: (GT ++ G5))) := HS
    clear M5
    have HLU := hide (HL5.out.mono (G' := .cells ub #[.slice U1 32 f1, .slice Z (i + 1) z, .slice U2 me f2, .slice U3 mz f3] 26 :: .row (.slice Bp 32 dp) 5 1 32 (bvs root) :: .row (.slice Bs 32 ds) 5 1 32 (bvs (seedW p)) :: .row (.slice Be q de) 5 1 q (bvs (S6.encL P2)) :: .cells tb #[.slice V1 32 e1, .slice Y (i + 1) y, .slice V2 me e2, .slice V3 mz e3] 26 :: (GT ++ G5)) (fun c hc => by (iterate 5 apply List.mem_cons_of_mem); exact List.mem_append_right _ hc))
    have HLT := hide (HL.out.mono (G' := .cells ub #[.slice U1 32 f1, .slice Z (i + 1) z, .slice U2 me f2, .slice U3 mz f3] 26 :: .row (.slice Bp 32 dp) 5 1 32 (bvs root) :: .row (.slice Bs 32 ds) 5 1 32 (bvs (seedW p)) :: .row (.slice Be q de) 5 1 q (bvs (S6.encL P2)) :: .cells tb #[.slice V1 32 e1, .slice Y (i + 1) y, .slice V2 me e2, .slice V3 mz e3] 26 :: (GT ++ G5)) (fun c hc => by (iterate 5 apply List.mem_cons_of_mem); exact List.mem_append_left _ hc))
    clear HL HL5
    refine wp_region_T [(0, 1), (1, 1), (2, 1), (3, 1), (4, 1), (5, 1), (6, 1), (7, 0), (8, 0), (9, 2), (10, 1), (11, 1), (12, 0), (13, 2), (14, 1), (15, 1), (16, 1), (17, 1), (18, 0), (19, 1), (20, 1), (21, 0), (22, 0), (23, 1), (24, 0), (25, 1), (26, 1), (27, 1), (28, 2), (29, 1), (30, 1)] (by kernel_rfl) (by kernel_rfl) (fun _ _ _ _ h => h) ?_
    have HS := hide HS.out.drew
    generalize wz9.drew = wq at HS ⊢
    obtain ⟨x', hx', hxb⟩ := HEND.out.fst
    obtain ⟨zs2, hzl2, hzp, _, _, _, _, _, _, rX, hok⟩ := HLT.out.open HS.out
    have kl : 0 < zs2.length := by omega
    have hlk : zs2[0]? = some zs2[0] := List.getElem?_eq_getElem kl
    have hxe : (zs2.map Sg.p)[0]? = some (zs2[0]).p := by rw [List.getElem?_map, hlk]; rfl
    rw [hzp, hx'] at hxe
    injection hxe with hxe
    obtain ⟨xb2, xo2, rfl, hb9, hc9⟩ := sg_at rX hlk
    obtain ⟨k0, k1, k2, k3, k4⟩ := hc9 _ (Below.refl _ _)
    clear hc9
    have HOX := hide ((hok _ (List.getElem_mem kl)).b)
    generalize zs2[0] = zi at k0 k1 k2 k3 k4 hxe HOX
    subst hxe
    obtain ⟨⟨E1, g1, y1⟩, _, _, _, _⟩ := zi
    replace hxb : y1 = l1 := hxb
    subst hxb
    replace k0 : wq.cell? ⟨xb2, xo2 + 0 * 5, none⟩ = some (.slice E1 y1.length g1) := k0
    rw [HL1.out, Nat.zero_mul, Nat.add_zero] at k0
    have HE1 : Hid (Rd wq (.slice E1 n1 g1) 1 n1 (bvs y1)) := hide (by rw [← HL1.out]; exact HOX.out)
    clear HOX hok rX hzl2 hzp k1 k2 k3 k4 hx' hlk kl
    have t0 : _ = some (Value.slice V1 32 e1) := HS.out.cell 4 rfl 0
    have t1 : _ = some (Value.slice (some ⟨xb2, xo2, none⟩) (i + 1) y) := HS.out.cell 4 rfl 1
    have t2 : _ = some (Value.slice V2 me e2) := HS.out.cell 4 rfl 2
    have t3 : _ = some (Value.slice V3 mz e3) := HS.out.cell 4 rfl 3
    have u0 : _ = some (Value.slice U1 32 f1) := HS.out.cell 0 rfl 0
    have u1 : _ = some (Value.slice Z (i + 1) z) := HS.out.cell 0 rfl 1
    have u2 : _ = some (Value.slice U2 me f2) := HS.out.cell 0 rfl 2
    have u3 : _ = some (Value.slice U3 mz f3) := HS.out.cell 0 rfl 3
    have nn : (0 : Int) < (i : Int) + 1 := by omega
    have nn2 : 0 < i + 1 := by omega
    have M0 := True.intro
    go_wp2_with (first
     | (clear M2; go_at_call 8; (with_reducible refine (awake24_any _).mono ?_); rintro e wy ⟨rfl, hb⟩; have HS := hide (HS.out.call hb); have M3 := True.intro)
     | (clear M1; go_at_call 29; (with_reducible refine (verify_in HS.out HLT.out HF2.out (by omega) (by omega) HEND.out.sv HEND.out.ver).mono ?_); rintro e wb ⟨rfl, hb⟩; have HS := hide (HS.out.call hb); have HW2 := hide (HW1.out.trans (hb.mono HW1.out.size)); have t1 : _ = some (Value.slice (some ⟨xb2, xo2, none⟩) (i + 1) y) := HS.out.cell 4 rfl 1; have k0 := (HW2.out.cell (p := ⟨xb2, xo2, none⟩) hb9).trans k0; have cv1 := fun x (hx : From wb x) => run_str (P := Tryz.prog) Tryz.underlying22 Tryz.underlying5 Tryz.underlying9 ((HE1.out.below HW2.out).below hx); have cv2 := fun x (hx : From wb x) => run_str (P := Tryz.prog) Tryz.underlying22 Tryz.underlying5 Tryz.underlying9 ((HR1.out.below HS.out.below).below hx); have M2 := True.intro)
     | (clear M0; go_at_call 22; (with_reducible refine (same_in HS.out HLT.out HLU.out HF2.out).mono ?_); rintro e wa ⟨rfl, hb⟩; have HS := hide (HS.out.call hb); have HW1 := hide hb; have t0 : _ = some (Value.slice V1 32 e1) := HS.out.cell 4 rfl 0; have t1 : _ = some (Value.slice (some ⟨xb2, xo2, none⟩) (i + 1) y) := HS.out.cell 4 rfl 1; have t2 : _ = some (Value.slice V2 me e2) := HS.out.cell 4 rfl 2; have t3 : _ = some (Value.slice V3 mz e3) := HS.out.cell 4 rfl 3; have M1 := True.intro)
     | (refine wpT_nil ?_)   | ((with_reducible refine fromT_refl ?_); (try simp only [Act.put, nq1, nq2, nq3, nq4, nq5, nq6]))   | ((with_reducible refine fromT_mk (by assumption) ?_); (try simp only [Act.put, nq1, nq2, nq3, nq4, nq5, nq6]))   | (refine wpT_pure (v := ?_) rfl rfl ?_ ?_; rotate_left; (intro wx; go_simp; try go_bits) <;> (with_reducible rfl); (try simp only [Act.put, nq1, nq2, nq3, nq4, nq5, nq6]))   | (refine wpT_load (v := ?_) rfl rfl rfl ?_ ?_; rotate_left; (go_simp; try go_bits) <;> (with_reducible rfl); (try simp only [Act.put, nq1, nq2, nq3, nq4, nq5, nq6]))   | (refine wpT_read (v := ?_) rfl rfl ?_ ?_; rotate_left; (intro wx hx; go_simp; try go_bits) <;> (with_reducible rfl); (try simp only [Act.put, nq1, nq2, nq3, nq4, nq5, nq6]))   | (refine wpT_call rfl rfl ?_; intro K hK)   | (refine wpT_late rfl rfl ?_; intro K hK)   | (refine wpT_any rfl rfl ?_; intro K hK)   | (refine wpT_skip rfl rfl ?_; (try simp only [Act.put, nq1, nq2, nq3, nq4, nq5, nq6])))
    go_ret
    exact ⟨rfl, HS.out.below⟩
end Go.Proofs.YtnohmgpmmhlloaaGreatDoor

namespace Go.Proofs.YtnohmgpmmhlloaaGreatDoor
open Go.ChangeShapes Go.WideShapes Go.ChangeAt Go.RowKit Go.Deep
open Go.ChangeMaps (open_string shut_string)

section
variable {H : Type} {enc : TypeId × Value → H} {P : Program}

theorem trodAll_below (hl : laidOutB P = true) {W W' : World} (hb : Below W.heap.size W W') : ∀ (ts : List TypeId) (vs : List Value) (ds : List (DataW H)) (ps : List MemPlace),
  (ts.all fun t => P.readableRec t && decide (t < P.types.size)) = true → DataW.TrodAll enc P W 0 (fun _ => true) true ts vs ds ps → DataW.TrodAll enc P W' 0 (fun b => decide (b < W.heap.size)) true ts vs ds ps
 | [], vs, ds, ps, _, h => by
  obtain ⟨rfl, rfl, rfl⟩ := trodAll_nil h
  exact rfl
 | t :: ts, vs, ds, ps, hts, h => by
  obtain ⟨v, vs', d, ds', p, q, rfl, rfl, rfl, hd, hr⟩ := trodAll_cons h
  simp only [List.all_cons, Bool.and_eq_true, decide_eq_true_eq] at hts
  obtain ⟨⟨k1, k2⟩, k3⟩ := hts
  have lt : ∀ x ∈ p, x.block < W.heap.size := by
   obtain ⟨m, hm⟩ := hd
   exact DataW.trod_lt m _ _ _ hm
  exact ⟨p, q, Below.trod hl k1 k2 hd hb lt, trodAll_below hl hb ts vs' ds' q (by simpa using k3) hr, rfl⟩
theorem trodAll_length : ∀ (ts : List TypeId) {w : World} {base : Nat} {spare : Nat → Bool} {held : Bool} (vs : List Value) (ds : List (DataW H)) (ps : List MemPlace), DataW.TrodAll enc P w base spare held ts vs ds ps → ds.length = ts.length
 | [], _, _, _, _, vs, ds, ps, h => by
  obtain ⟨rfl, rfl, rfl⟩ := trodAll_nil h
  rfl
 | t :: ts, _, _, _, _, vs, ds, ps, h => by
  obtain ⟨v, vs', d, ds', p, q, rfl, rfl, rfl, hd, hr⟩ := trodAll_cons h
  rw [List.length_cons, List.length_cons, trodAll_length ts vs' ds' q hr]

structure Told (P : Program) (enc : TypeId × Value → H) (W : World) (ts : List TypeId) (args : Array Value) (ds : List (DataW H)) (p : List MemPlace) : Prop where
 trod : DataW.TrodAll enc P W 0 (fun _ => true) true ts args.toList ds p
 ok : ∃ base, ∀ (j : Nat) (t : TypeId) (v : Value), ts.toArray[j]? = some t → args[j]? = some v → Value.okWide P W .any base t v
 size : (DataW.weightsEach P ts ds).all (· ≤ reachBytes) = true
end

section
variable {H : Type} {enc : TypeId × Value → H} {P : Program} {W : World}

theorem open_bytes {t e : TypeId} {fuel : Nat} {a : Option Addr} {len cap : Nat} {x : DataW H × List MemPlace} (ht : P.underlying t = some (.slice e)) (he : P.underlying e = some (.int .u8)) (hC : P.cellsOf e = 1) (hB : P.bytesOf e = 1)
  (h : DataW.trod enc P W 0 (fun _ => true) true fuel t [.slice a len cap] = some x) :
  ∃ l : List UInt8, l.length = len ∧ Rd W (.slice a len cap) 1 len (bvs l) ∧ ((∀ n ∈ x.1.weights P t, n ≤ reachBytes) → len ≤ 140737488351232) := by
 rcases open_ints ht he hC h with ⟨hcs, hx⟩ | ⟨ad, len', cap', zs, hcs, _, hl, hm, hz, hx, hcell, hwz⟩
 ·simp only [List.cons.injEq, and_true, Value.slice.injEq] at hcs
  obtain ⟨rfl, rfl, rfl⟩ := hcs
  exact ⟨[], rfl, rd_nil W 1, fun _ => by omega⟩
 ·simp only [List.cons.injEq, and_true, Value.slice.injEq] at hcs
  obtain ⟨rfl, rfl, rfl⟩ := hcs
  simp only [if_true] at hz
  refine ⟨(zs.take len).map fun z => UInt8.ofNat z.toNat, by simp; omega, ⟨some ad, cap, rfl, by rw [length_bvs]; simp; omega, hl, hm, (fun hn => by cases hn), fun b o sp hA => ?_⟩, fun hw => ?_⟩
  case refine_2 =>
   have := hw ((len + (cap - len)) * 1) (by rw [hx]; simp [DataW.weights, ht, lits, hB]; omega)
   simp only [reachBytes] at this
   omega
  injection hA with hA
  subst hA
  have hsp : ∀ j, j < zs.length → sp = none := fun j hj => by
   have h0 := hcell 0 (by omega)
   simpa [Addr.add] using World.cell?_spot h0
  refine ⟨fun hn => hsp 0 (by omega), fun j u hu => ?_⟩
  have hj : j < len := by
   have := (List.getElem?_eq_some_iff.1 hu).1
   rw [length_bvs] at this
   simp at this
   omega
  obtain rfl := hsp 0 (by omega)
  have hc := hcell j (by omega)
  rw [Addr.add_lit] at hc
  rw [hc, ← hu]
  have hjz : j < zs.length := by omega
  simp only [bvs, List.getElem?_map, List.getElem?_take, if_pos hj, List.getElem?_eq_getElem hjz, List.getD_eq_getElem?_getD, Option.map_some, Option.getD_some, bv, UInt8.toNat_ofNat']
  have hwf := hwz _ (List.getElem_mem hjz)
  simp [Lit.wf, IntKind.min, IntKind.max, IntKind.signed, IntKind.bits] at hwf
  congr 2
  omega

theorem weightsAll_mem {e : TypeId} : ∀ {ds : List (DataW H)} {d : DataW H} {n : Nat}, d ∈ ds → n ∈ d.weights P e → n ∈ DataW.weightsAll P e ds
 | _ :: _, _, _, .head _, hn => by simp only [DataW.weightsAll, List.mem_append]; exact .inl hn
 | _ :: _, _, _, .tail _ hd, hn => by simp only [DataW.weightsAll, List.mem_append]; exact .inr (weightsAll_mem hd hn)

theorem flat_at {α β : Type} (f : α → List β) (m : Nat) (hm : ∀ a, (f a).length = m) : ∀ (l : List α) (k j : Nat) (a : α), l[k]? = some a → j < m → (l.flatMap f)[k * m + j]? = (f a)[j]?
 | [], k, j, a, h, _ => by simp at h
 | x :: l, 0, j, a, h, hj => by
  simp only [List.getElem?_cons_zero, Option.some.injEq] at h
  subst h
  rw [List.flatMap_cons, Nat.zero_mul, Nat.zero_add, List.getElem?_append_left (by rw [hm]; exact hj)]
 | x :: l, k + 1, j, a, h, hj => by
  rw [List.flatMap_cons, List.getElem?_append_right (by rw [hm]; rw [Nat.succ_mul]; omega), hm, show (k + 1) * m + j - m = k * m + j from by rw [Nat.succ_mul]; omega]
  exact flat_at f m hm l k j a (by simpa using h) hj
theorem flat_len {α β : Type} (f : α → List β) (m : Nat) (hm : ∀ a, (f a).length = m) (l : List α) : (l.flatMap f).length = l.length * m := by
 induction l with
 | nil => simp
 | cons x l ih => rw [List.flatMap_cons, List.length_append, hm, ih, List.length_cons, Nat.succ_mul]; omega

theorem open_rows {α : Type} (f : α → List Value) {size bytes : Nat} (hf : ∀ p, (f p).length = size) (hpos : 0 < size) (OK : α → Prop) {t e : TypeId} {fuel : Nat} {a : Option Addr} {len cap : Nat} {x : DataW H × List MemPlace}
  (ht : P.underlying t = some (.slice e)) (hC : P.cellsOf e = size) (hB : P.bytesOf e = bytes)
  (hread : ∀ n cs y, DataW.trod enc P W 0 (fun _ => true) true n e cs = some y → ∃ p, cs = f p ∧ ((∀ n ∈ y.1.weights P e, n ≤ reachBytes) → OK p))
  (h : DataW.trod enc P W 0 (fun _ => true) true fuel t [.slice a len cap] = some x) :
  ∃ ps : List α, ps.length = len ∧ Rd W (.slice a len cap) size len (ps.flatMap f) ∧ ((∀ n ∈ x.1.weights P t, n ≤ reachBytes) → (∀ p ∈ ps, OK p) ∧ len * bytes ≤ 140737488351232) := by
 rcases open_slice ht h with ⟨hcs, hx⟩ | ⟨ad, len', cap', m, n, D, Pl, hcs, _, hl, hm, hmm, hx, hi⟩
 ·simp only [List.cons.injEq, and_true, Value.slice.injEq] at hcs
  obtain ⟨rfl, rfl, rfl⟩ := hcs
  exact ⟨[], rfl, rd_nil W size, fun _ => ⟨(fun p hp => by cases hp), by omega⟩⟩
 ·simp only [List.cons.injEq, and_true, Value.slice.injEq] at hcs
  obtain ⟨rfl, rfl, rfl⟩ := hcs
  simp only [if_true] at hmm
  obtain rfl : cap = m := hmm.symm
  have key : ∀ k, k ≤ len → ∃ ps : List α, ps.length = k ∧ ∀ i p, ps[i]? = some p → (∀ j u, (f p)[j]? = some u → W.cell? ((ad.add (i * size)).add j) = some u) ∧ ((∀ n ∈ (D i).weights P e, n ≤ reachBytes) → OK p) := by
   intro k
   induction k with
   | zero => exact fun _ => ⟨[], rfl, fun i p hp => by simp at hp⟩
   | succ k ih =>
    intro hk
    obtain ⟨ps, hps, hall⟩ := ih (by omega)
    obtain ⟨cs', h1, h2⟩ := hi k (by omega)
    obtain ⟨p, rfl, hok⟩ := hread n cs' _ h2
    rw [hC] at h1
    obtain ⟨_, _, hat⟩ := World.cells?_some h1
    refine ⟨ps ++ [p], by simp [hps], fun i q hq => ?_⟩
    rw [List.getElem?_append] at hq
    split at hq
    ·exact hall i q hq
    ·have hik : i = k := by
      have := (List.getElem?_eq_some_iff.1 hq).1
      simp at this
      omega
     subst hik
     have hpq : p = q := by
      rw [hps, Nat.sub_self] at hq
      simpa using hq
     subst hpq
     refine ⟨fun j u hu => ?_, hok⟩
     have hj : j < size := by rw [← hf p]; exact (List.getElem?_eq_some_iff.1 hu).1
     rw [hat j hj, hu]
  obtain ⟨ps, hps, hall⟩ := key len (Nat.le_refl _)
  have hadd : ∀ i j : Nat, (ad.add i).add j = ad.add (i + j) := by
   intro i j
   unfold Addr.add
   by_cases hi : i = 0 <;> by_cases hj : j = 0 <;> simp [hi, hj, Nat.add_assoc]
  have hcell : ∀ q u, (ps.flatMap f)[q]? = some u → W.cell? (ad.add q) = some u := by
   intro q u hu
   have hq : q < len * size := by
    have := (List.getElem?_eq_some_iff.1 hu).1
    rwa [flat_len f size hf, hps] at this
   have hd : q / size < ps.length := by rw [hps]; exact Nat.div_lt_of_lt_mul (by rw [Nat.mul_comm]; exact hq)
   have hr : q % size < size := Nat.mod_lt _ hpos
   have hqe : q / size * size + q % size = q := by rw [Nat.mul_comm]; exact Nat.div_add_mod q size
   have h3 := hall (q / size) ps[q / size] (List.getElem?_eq_getElem hd)
   have h4 := flat_at f size hf ps (q / size) (q % size) ps[q / size] (List.getElem?_eq_getElem hd) hr
   rw [hqe, hu] at h4
   have h5 := h3.1 (q % size) u h4.symm
   rwa [hadd, hqe] at h5
  refine ⟨ps, hps, ⟨some ad, cap, rfl, by rw [flat_len f size hf, hps], hl, hm, (fun hn => by cases hn), fun b o sp hA => ?_⟩, fun hw => ⟨fun p hp => ?_, ?_⟩⟩
  ·injection hA with hA
   subst hA
   have hsp : ∀ q u, (ps.flatMap f)[q]? = some u → sp = none := fun q u hu => by
    have hlt := (List.getElem?_eq_some_iff.1 hu).1
    have h0 := hcell 0 _ (List.getElem?_eq_getElem (by omega))
    simpa [Addr.add] using World.cell?_spot h0
   refine ⟨fun hn => hsp 0 _ (List.getElem?_eq_getElem (by rw [flat_len f size hf, hps]; omega)), fun j u hu => ?_⟩
   have hc := hcell j u hu
   obtain rfl := hsp j u hu
   rwa [Addr.add_lit] at hc
  ·obtain ⟨i, hlt, rfl⟩ := List.getElem_of_mem hp
   refine (hall i _ (List.getElem?_eq_getElem hlt)).2 fun n hn => hw n ?_
   rw [hx]
   simp only [DataW.weights, ht, List.mem_cons, List.mem_append]
   exact .inr (.inl (weightsAll_mem (List.mem_map.2 ⟨i, by simp; omega, rfl⟩) hn))
  ·have := hw ((len + (cap - len)) * bytes) (by rw [hx]; simp [DataW.weights, ht, hB])
   simp only [reachBytes] at this
   exact Nat.le_trans (Nat.mul_le_mul_right bytes (Nat.le_add_right len (cap - len))) this
end
end Go.Proofs.YtnohmgpmmhlloaaGreatDoor

namespace Go.Proofs.YtnohmgpmmhlloaaGreatDoor
open Go.ChangeShapes Go.WideShapes Go.ChangeAt Go.RowKit Go.Deep

theorem u8_of {n : Int} (h : (Lit.int .u8 n).wf = true) : ∃ m : Nat, n = m ∧ m < 256 := by
 simp [Lit.wf, IntKind.min, IntKind.max, IntKind.signed, IntKind.bits] at h
 exact ⟨n.toNat, by omega, by omega⟩
section
variable {H : Type} {enc : TypeId × Value → H} {P : Program} {w W : World} {base : Nat} {spare : Nat → Bool} {held : Bool}
theorem trodAll_five {t0 t1 t2 t3 t4 : TypeId} {args : Array Value} {ds : List (DataW H)} {ps : List MemPlace} (h : DataW.TrodAll enc P w base spare held [t0, t1, t2, t3, t4] args.toList ds ps) :
  ∃ v0 v1 v2 v3 v4 d0 d1 d2 d3 d4 p0 p1 p2 p3 p4, args = #[v0, v1, v2, v3, v4] ∧ ds = [d0, d1, d2, d3, d4] ∧ ps = p0 ++ p1 ++ p2 ++ p3 ++ p4 ∧ DataW.Trod enc P w base spare held t0 v0 d0 p0 ∧ DataW.Trod enc P w base spare held t1 v1 d1 p1 ∧
   DataW.Trod enc P w base spare held t2 v2 d2 p2 ∧ DataW.Trod enc P w base spare held t3 v3 d3 p3 ∧ DataW.Trod enc P w base spare held t4 v4 d4 p4 := by
 obtain ⟨v0, vs, d0, ds', p0, q, hargs, rfl, rfl, h0, hr⟩ := trodAll_cons h
 obtain ⟨v1, vs1, d1, ds1, p1, q1, rfl, rfl, rfl, h1, hr1⟩ := trodAll_cons hr
 obtain ⟨v2, vs2, d2, ds2, p2, q2, rfl, rfl, rfl, h2, hr2⟩ := trodAll_cons hr1
 obtain ⟨v3, vs3, d3, ds3, p3, q3, rfl, rfl, rfl, h3, hr3⟩ := trodAll_cons hr2
 obtain ⟨v4, vs4, d4, ds4, p4, q4, rfl, rfl, rfl, h4, hr4⟩ := trodAll_cons hr3
 obtain ⟨rfl, rfl, rfl⟩ := trodAll_nil hr4
 exact ⟨v0, v1, v2, v3, v4, d0, d1, d2, d3, d4, p0, p1, p2, p3, p4, by cases args; simp_all, rfl, by simp, h0, h1, h2, h3, h4⟩
end
end Go.Proofs.YtnohmgpmmhlloaaGreatDoor

namespace Go.Proofs.YtnohmgpmmhlloaaGreatDoor
open Go.ChangeShapes Go.WideShapes Go.ChangeAt Go.RowKit

theorem own : ownKnob Tryz.prog.godebug = none := by kernel_rfl
theorem laidOut : laidOutB Tryz.prog = true := by kernel_rfl
theorem cellsU8 : Tryz.prog.cellsOf 5 = 1 := by kernel_rfl
theorem bytesU8 : Tryz.prog.bytesOf 5 = 1 := by kernel_rfl
end Go.Proofs.YtnohmgpmmhlloaaGreatDoor

namespace Go.Proofs.YtnohmgpmmhlloaaGreatDoor
open Go.ChangeShapes Go.WideShapes Go.ChangeAt Go.RowKit
theorem cellsBs : Tryz.prog.cellsOf 22 = 1 := by kernel_rfl
theorem bytesBs : Tryz.prog.bytesOf 22 = 24 := by kernel_rfl
theorem cellsBo : Tryz.prog.cellsOf 4 = 1 := by kernel_rfl
theorem bytesBo : Tryz.prog.bytesOf 4 = 1 := by kernel_rfl
section
variable {H : Type} {enc : TypeId × Value → H} {W : World}
theorem pc_read (n : Nat) (cs : List Value) (y : DataW H × List MemPlace) (h : DataW.trod enc Tryz.prog W 0 (fun _ => true) true n 22 cs = some y) :
  ∃ p : PcV, cs = p.cells ∧ ((∀ n ∈ y.1.weights Tryz.prog 22, n ≤ reachBytes) → PcOK W p) := by
 obtain ⟨A, len, cap, rfl⟩ : ∃ A len cap, cs = [.slice A len cap] := by
  rcases DataW.trod_slice Tryz.underlying22 h with ⟨e, _⟩ | ⟨a, l, c, _, _, _, _, e, _⟩ <;> exact ⟨_, _, _, e⟩
 obtain ⟨l, rfl, hr, hs⟩ := open_bytes Tryz.underlying22 Tryz.underlying5 cellsU8 bytesU8 h
 exact ⟨⟨A, cap, l⟩, rfl, fun hw => hr⟩
theorem open_lists {fuel : Nat} {a : Option Addr} {len cap : Nat} {x : DataW H × List MemPlace} (h : DataW.trod enc Tryz.prog W 0 (fun _ => true) true fuel 47 [.slice a len cap] = some x)
  (hw : ∀ n ∈ x.1.weights Tryz.prog 47, n ≤ reachBytes) : ∃ ps : List PcV, ps.length = len ∧ Rd W (.slice a len cap) 1 len (ps.flatMap PcV.cells) ∧ ∀ p ∈ ps, PcOK W p := by
 obtain ⟨ps, hl, hr, hk⟩ := open_rows PcV.cells (fun _ => rfl) (by decide) (PcOK W) Tryz.underlying47 cellsBs bytesBs pc_read h
 exact ⟨ps, hl, hr, fun p hp => (hk hw).1 p hp⟩
theorem open_bools {fuel : Nat} {a : Option Addr} {len cap : Nat} {x : DataW H × List MemPlace} (h : DataW.trod enc Tryz.prog W 0 (fun _ => true) true fuel 54 [.slice a len cap] = some x) : ∃ bs : List Bool, bs.length = len ∧ Rd W (.slice a len cap) 1 len (bs.map Value.bool) := by
 obtain ⟨bs, hl, hr, hx⟩ := open_rows (fun b : Bool => [Value.bool b]) (fun _ => rfl) (by decide) (fun _ => True) Tryz.underlying54 cellsBo bytesBo (fun n cs y h => by
  obtain ⟨b, rfl, _⟩ := DataW.trod_bool Tryz.underlying4 h
  exact ⟨b, rfl, fun _ => trivial⟩) h
 have e : bs.flatMap (fun b : Bool => [Value.bool b]) = bs.map Value.bool := by
  clear hl hr hx
  induction bs with
  | nil => rfl
  | cons b bs ih => rw [List.flatMap_cons, ih]; rfl
 rw [e] at hr
 exact ⟨bs, hl, hr⟩
end
theorem chainVerifies_nat (p : Nat) (hp : p < 256) (A1 : Option Addr) (n1 c1 : Nat) (l1 : List UInt8) (Al : Option Addr) (m cl : Nat) (ps : List PcV) (Av : Option Addr) (nv cv : Nat) (vs : List Bool) (se : Bool) (w : World)
  (hl1 : l1.length = n1) (hm : ps.length = m) (hnv : vs.length = nv) (hr1 : Rd w (.slice A1 n1 c1) 1 n1 (bvs l1)) (hrl : Rd w (.slice Al m cl) 1 m (ps.flatMap PcV.cells)) (hps : ∀ q ∈ ps, PcOK w q) (hrv : Rd w (.slice Av nv cv) 1 nv (vs.map Value.bool)) :
  Calls Tryz.prog 7 #[.int .u8 (p : Int), .slice A1 n1 c1, .slice Al m cl, .slice Av nv cv, .bool se] w fun e w' => e = .returned (.bool true) ∧ Below w.heap.size w w' := by
 have h := chainVerifies_walk (UInt8.ofNat p) A1 n1 c1 l1 Al m cl ps Av nv cv vs se w hl1 hm hnv hr1 hrl hps hrv
 rwa [show ((UInt8.ofNat p).toNat : Int) = (p : Int) from by rw [UInt8.toNat_ofNat']; omega] at h
end Go.Proofs.YtnohmgpmmhlloaaGreatDoor

namespace Go.Proofs.YtnohmgpmmhlloaaGreatDoor
open Go.ChangeShapes Go.WideShapes Go.ChangeAt Go.RowKit Go.Deep

theorem lift_laid {C : Checked} (own : ownKnob C.prog.godebug = none) {os : Os} (started : os.Started) {f : FuncId} {fn : Func} (noInit : C.prog.inits.idxOf? f = none) (hfn : C.prog.funcs[f]? = some fn)
  {s : ChangeSpec} (hvars : s.vars = []) (hbare : s.plain.varTypes C.prog = []) {tb : TypeId} (hres : fn.resultTypes = #[tb]) (hbool : C.prog.underlying tb = some .bool) (hl : laidOutB C.prog = true)
  (hts : (fn.params.toList.all fun t => C.prog.readableRec t && decide (t < C.prog.types.size)) = true) {l : List (String × DataW Unit)}
  {H : Type} {enc : TypeId × Value → H} (hspec : ∀ (ds : List (DataW H)), ds.length = fn.params.toList.length → (s.fn H ds).results = [.lit (.bool true)] ∧ (s.fn H ds).args = ds ∧ (s.fn H ds).vars = [])
  (witness : ∃ (w : World) (tape : Tape) (i : Input), w.os = os ∧ (w.forCall tape i).Shaped C.prog ∧ i.vars = [] ∧ Input.okWide C.prog (w.forCall tape i) .any w.heap.size f i ∧
   ((s.pre enc C.prog fn [] false (w.forCall tape i).memory i.args ∧ laidMetH C.prog l (w.forCall tape i).memory) ∧ sizedMet enc C.prog fn (OpenSpec.ofChange s) false (w.forCall tape i).memory i.args) ∧ Assume.holds {} C.prog (lone (Frame.enter C.prog f i.args .normal) [] (w.forCall tape i)))
  (walk : ∀ (W : World) (args : Array Value) (ds : List (DataW H)) (p : List MemPlace), Told C.prog enc W fn.params.toList args ds p → laidMetH C.prog l W →
   Calls C.prog f args W fun e W' => e = .returned (.bool true) ∧ Below W.heap.size W W') :
  ReturnsInHanded {} C os f .any (fun w args => (s.pre enc C.prog fn [] false w args ∧ laidMetH C.prog l w) ∧ sizedMet enc C.prog fn (OpenSpec.ofChange s) false w args) (s.post enc C.prog fn false true false false) := by
 refine returnsInHanded_of_change_and (C := C) (X := fun w _ => laidMetH C.prog l w) (fun _ _ _ hh h => h.of_heap hh) own started noInit hfn witness ?_
 intro W base args ds gs before hval hW _ hsz hL _
 have hW' := hW
 obtain ⟨p, q, hA, hV, rfl, hfz, hnd⟩ := hW
 rw [hvars] at hV
 obtain ⟨rfl, rfl⟩ := trodVars_none hV
 have hlen := trodAll_length fn.params.toList args.toList ds p hA
 obtain ⟨s1, s2, s3⟩ := hspec ds hlen
 refine (walk W args ds p ⟨hA, ⟨base, fun j t v ht hv => hval j t v (by simpa using ht) hv⟩, by rw [hbare] at hsz; simpa using hsz⟩ hL).mono fun e W' ⟨he, bel⟩ => ?_
 subst he
 refine ⟨_, rfl, ds, [], _, [], p, [], hW', ?_, ?_, ?_, bel.frame _, fun h => by cases h⟩
 ·rw [List.append_nil, s1, hres]
  exact trodAll_mk1 (shut_bool hbool _)
 ·rw [List.append_nil, s2]
  exact trodAll_below hl bel _ _ _ _ hts hA
 ·rw [List.append_nil, s3, hvars]
  exact rfl

def LL : List (String × DataW Unit) := [("math/bits.deBruijn32tab", Rows.laid_math_bits_deBruijn32tab), ("math/bits.deBruijn64tab", Rows.laid_math_bits_deBruijn64tab), ("internal/strconv.uint64pow10", Rows.laid_internal_strconv_uint64pow10), ("strconv.ErrRange", Rows.laid_strconv_ErrRange), ("strconv.ErrSyntax", Rows.laid_strconv_ErrSyntax)]
theorem door_met (os : Os) (args : Array Value) : laidMetH Tryz.prog LL ((World.doorLaid Tryz.prog 400 os).forCall (fun _ _ => 0) ⟨#[], args, []⟩).memory := by
 rw [MakeChecks.laidMetH_plain _ _ _ (by kernel_rfl)]
 exact laidMet_of_run' 8 (by kernel_rfl) (by kernel_rfl)
end Go.Proofs.YtnohmgpmmhlloaaGreatDoor

namespace Go.Proofs.YtnohmgpmmhlloaaGreatDoor
open Go.ChangeShapes Go.WideShapes Go.ChangeAt Go.RowKit

theorem chainVerifies_lifted (os : Os) (started : os.Started) (H : Type) (enc : TypeId × Value → H) :
  ReturnsInHanded {} Tryz.checked os 7 .any (fun w args => (Rows.chainVerifiesSpec.pre enc Tryz.prog Tryz.f7 [] false w args ∧ laidMetH Tryz.prog LL w) ∧ sizedMet enc Tryz.prog Tryz.f7 (OpenSpec.ofChange Rows.chainVerifiesSpec) false w args) (Rows.chainVerifiesSpec.post enc Tryz.prog Tryz.f7 false true false false) := by
 refine lift_laid (C := Tryz.checked) own started (by kernel_rfl) Tryz.func7 rfl rfl (tb := 4) (by kernel_rfl) Tryz.underlying4 laidOut (by kernel_rfl) (l := LL) ?_
  (ChangeSpec.witness_shaped (enc := enc) (C := Tryz.checked) (os := os) (X := fun w _ => laidMetH Tryz.prog LL w) false (World.doorLaid Tryz.prog 400 os) #[.int .u8 0, .slice none 0 0, .slice none 0 0, .slice none 0 0, .bool false] 8 rfl (World.shaped_of_RefB (by kernel_rfl) (by kernel_rfl)) (by kernel_rfl) (by kernel_rfl) (by kernel_rfl) (door_met os _)) ?_
 ·intro ds hds
  rw [Tryz.params7] at hds
  match ds, hds with
  | [d0, d1, d2, d3, d4], _ => exact ⟨rfl, rfl, rfl⟩
 ·intro W args ds p hT hL
  obtain ⟨hA, ⟨base, hok⟩, hsz⟩ := hT
  rw [Tryz.params7] at hA hok hsz
  obtain ⟨v0, v1, v2, v3, v4, d0, d1, d2, d3, d4, p0, p1, p2, p3, p4, rfl, rfl, rfl, h0, h1, h2, h3, h4⟩ := trodAll_five hA
  obtain ⟨z0, rfl, rfl, rfl, w0⟩ := open_int Tryz.underlying5 (hok 0 5 v0 rfl rfl) h0
  obtain ⟨n0, rfl, hn0⟩ := u8_of w0
  obtain ⟨a1, len1, cap1, rfl⟩ := okWide_slice Tryz.underlying22 (hok 1 22 v1 rfl rfl)
  obtain ⟨fuel1, hf1⟩ := h1
  obtain ⟨a2, len2, cap2, rfl⟩ := okWide_slice Tryz.underlying47 (hok 2 47 v2 rfl rfl)
  obtain ⟨fuel2, hf2⟩ := h2
  obtain ⟨a3, len3, cap3, rfl⟩ := okWide_slice Tryz.underlying54 (hok 3 54 v3 rfl rfl)
  obtain ⟨fuel3, hf3⟩ := h3
  obtain ⟨b4, rfl, rfl, rfl⟩ := open_bool Tryz.underlying4 (hok 4 4 v4 rfl rfl) h4
  obtain ⟨l1, rfl, r1, s1⟩ := open_bytes Tryz.underlying22 Tryz.underlying5 cellsU8 bytesU8 (show DataW.trod enc Tryz.prog W 0 (fun _ => true) true fuel1 22 [.slice a1 len1 cap1] = some (d1, p1) from hf1)
  replace s1 := s1 (fun n hn => by
   have := List.all_eq_true.1 hsz n (DataW.weights_mem_each (j := 1) rfl rfl n hn)
   simpa using this)
  obtain ⟨ls2, hl2, r2, q2⟩ := open_lists (show DataW.trod enc Tryz.prog W 0 (fun _ => true) true fuel2 47 [.slice a2 len2 cap2] = some (d2, p2) from hf2) (fun n hn => by
   have := List.all_eq_true.1 hsz n (DataW.weights_mem_each (j := 2) rfl rfl n hn)
   simpa using this)
  obtain ⟨bs3, hb3, r3⟩ := open_bools (show DataW.trod enc Tryz.prog W 0 (fun _ => true) true fuel3 54 [.slice a3 len3 cap3] = some (d3, p3) from hf3)
  exact chainVerifies_nat n0 hn0 a1 _ cap1 l1 a2 _ cap2 ls2 a3 _ cap3 bs3 b4 W rfl hl2 hb3 r1 r2 q2 r3

theorem chainVerifies_over : Rows.chainVerifiesRow.holds Tryz.pinned (OpenSpec.ofChange Rows.chainVerifiesSpec) :=
 OpenClaim.holds_of_wide 7 Tryz.f7 rfl rfl rfl rfl rfl rfl rfl ⟨rfl, rfl, rfl, rfl, rfl⟩ rfl rfl rfl rfl rfl (by kernel_rfl) Tryz.func7 (by kernel_rfl)
  (of_decide_eq_true (by kernel_rfl)) (by unfold Func.isWrapper; first | (rw [if_pos (by decide +kernel)]; kernel_rfl) | (rw [if_neg (by decide +kernel)]; exact ⟨rfl, rfl⟩))
  (fun os started H enc _ => chainVerifies_lifted os started H enc)

theorem chainVerifies_proved : Rows.ChainVerifiesCardSaid :=
 Claim7.holds_tied_plain_at .later [] [.data, .data, .data, .sentinel, .sentinel] true (true, "5307a9007335d7c83d3ec3980db5ef60e9a38f7de7da356abba6370d761985cc") true
  chainVerifies_over (fun _ h => by cases h) (by kernel_rfl) (fun _ h => by cases h) chainVerifies_row_tie rfl ⟨rfl, rfl⟩ (by kernel_rfl) rfl
  (fun f fn hf hfn => by
   obtain rfl : f = 7 := Option.some.inj ((show Tryz.prog.funcNamed "viaticum/viaticumlaw24.ChainVerifies" = some 7 by kernel_rfl).symm.trans hf) |>.symm
   obtain rfl : fn = Tryz.f7 := (Option.some.inj (Tryz.func7.symm.trans hfn)).symm
   exact ⟨by kernel_rfl, fun j t ht => by
    rw [Tryz.params7] at ht
    have hm : t ∈ ([5, 22, 47, 54, 4] : List TypeId) := by
     have := Array.mem_of_getElem? ht
     simpa using this
    have hall : (([5, 22, 47, 54, 4] : List TypeId).all fun u => !Tryz.prog.wantsStandIn u) = true := by kernel_rfl
    have := List.all_eq_true.1 hall t hm
    exact (show Tryz.prog.wantsStandIn t = false by simpa using this)⟩)
  (by kernel_rfl)
#print axioms chainVerifies_proved
end Go.Proofs.YtnohmgpmmhlloaaGreatDoor
