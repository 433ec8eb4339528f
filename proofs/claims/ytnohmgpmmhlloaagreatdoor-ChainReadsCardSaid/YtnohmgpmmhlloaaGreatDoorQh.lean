/-
 Joined of texts of mine, in build order: Of, Og, Oh, C5, C7, Pw12, Pw13, D5, D6, D7, D8. Each says what it proves at its own head.
-/
import Derived.Test.YtnohmgpmmhlloaaGreatDoorQg
set_option linter.unusedSimpArgs false
set_option linter.unusedVariables false
set_option maxRecDepth 100000
set_option maxHeartbeats 25600000

namespace Go.Proofs.YtnohmgpmmhlloaaGreatDoor
open Go.RowKit
set_option linter.unusedSimpArgs false
theorem same_any (A1 A2 A3 A B1 B2 B3 B : Option Addr) (m1 m2 m3 n c1 c2 c3 c p1 p2 p3 m d1 d2 d3 d : Nat) (l1 l2 l3 k1 k2 k3 : List UInt8) (l k : List Sg) (w : World) (hl : l.length = n) (hk : k.length = m) (hn : n ≤ 1000) (hm : m ≤ 1000)
  (ha1 : Rd w (.slice A1 m1 c1) 1 m1 (bvs l1)) (ha2 : Rd w (.slice A2 m2 c2) 1 m2 (bvs l2)) (ha3 : Rd w (.slice A3 m3 c3) 1 m3 (bvs l3)) (ha : Rd w (.slice A n c) 5 n (sgCells l)) (hx : ∀ x ∈ l, SgOK w x)
  (hb1 : Rd w (.slice B1 p1 d1) 1 p1 (bvs k1)) (hb2 : Rd w (.slice B2 p2 d2) 1 p2 (bvs k2)) (hb3 : Rd w (.slice B3 p3 d3) 1 p3 (bvs k3)) (hb : Rd w (.slice B m d) 5 m (sgCells k)) (hy : ∀ x ∈ k, SgOK w x) :
  Calls Tryz.prog 22 #[.agg #[.slice A1 m1 c1, .slice A n c, .slice A2 m2 c2, .slice A3 m3 c3], .agg #[.slice B1 p1 d1, .slice B m d, .slice B2 p2 d2, .slice B3 p3 d3]] w (fun e w' => e = .returned (.bool (sameTp ⟨l1, l.map Sg.p, l2, l3⟩ ⟨k1, k.map Sg.p, k2, k3⟩)) ∧ Below w.heap.size w w') := by
 have hS0 := ((St.init w NoB).alloc #[.slice A1 m1 c1, .slice A n c, .slice A2 m2 c2, .slice A3 m3 c3] 26).alloc #[.slice B1 p1 d1, .slice B m d, .slice B2 p2 d2, .slice B3 p3 d3] 26
 rw [size_alloc1] at hS0
 have HS := hide hS0
 clear hS0
 have HA1 := hide (ha1.below HS.out.below)
 have HA2 := hide (ha2.below HS.out.below)
 have HA3 := hide (ha3.below HS.out.below)
 have HA := hide (ha.below HS.out.below)
 have HB1 := hide (hb1.below HS.out.below)
 have HB2 := hide (hb2.below HS.out.below)
 have HB3 := hide (hb3.below HS.out.below)
 have HB := hide (hb.below HS.out.below)
 have HX := hide (fun x hm => (hx x hm).on HS.out.below)
 have HY := hide (fun x hm => (hy x hm).on HS.out.below)
 have HL := hide hl
 have HK := hide hk
 clear ha1 ha2 ha3 ha hx hb1 hb2 hb3 hb hy hl hk
 have ta0 : _ = some (Value.slice A1 m1 c1) := HS.out.cell 1 rfl 0
 have ta1 : _ = some (Value.slice A n c) := HS.out.cell 1 rfl 1
 have ta2 : _ = some (Value.slice A2 m2 c2) := HS.out.cell 1 rfl 2
 have ta3 : _ = some (Value.slice A3 m3 c3) := HS.out.cell 1 rfl 3
 have tb0 : _ = some (Value.slice B1 p1 d1) := HS.out.cell 0 rfl 0
 have tb1 : _ = some (Value.slice B m d) := HS.out.cell 0 rfl 1
 have tb2 : _ = some (Value.slice B2 p2 d2) := HS.out.cell 0 rfl 2
 have tb3 : _ = some (Value.slice B3 p3 d3) := HS.out.cell 0 rfl 3
 cases e1 : (l1 == k1) with
 | false =>
  go_enter Tryz.func22, Tryz.ntmps22
  have M0 := True.intro
  go_wp2_with (first
   | (clear M0; go_at_call 54; (with_reducible refine (eqB_any _ _ _ _ _ _ _ _ _ _ e1 HA1.out HB1.out).mono ?_); rintro e wy ⟨rfl, rfl⟩; have M1 := True.intro))
  go_ret
  exact ⟨congrArg (fun b => Ending.returned (.bool b)) (sameTp_no (fun h => ne_of_b e1 (congrArg Tp.r h))).symm, HS.out.below⟩
 | true =>
  cases e2 : (l2 == k2) with
  | false =>
   go_enter Tryz.func22, Tryz.ntmps22
   have M0 := True.intro
   go_wp2_with (first
    | (clear M1; go_at_call 54; (with_reducible refine (eqB_any _ _ _ _ _ _ _ _ _ _ e2 HA2.out HB2.out).mono ?_); rintro e wy ⟨rfl, rfl⟩; have M2 := True.intro)
    | (clear M0; go_at_call 54; (with_reducible refine (eqB_any _ _ _ _ _ _ _ _ _ _ e1 HA1.out HB1.out).mono ?_); rintro e wy ⟨rfl, rfl⟩; have M1 := True.intro))
   go_ret
   exact ⟨congrArg (fun b => Ending.returned (.bool b)) (sameTp_no (fun h => ne_of_b e2 (congrArg Tp.e h))).symm, HS.out.below⟩
  | true =>
   cases e3 : (l3 == k3) with
   | false =>
    go_enter Tryz.func22, Tryz.ntmps22
    have M0 := True.intro
    go_wp2_with (first
     | (clear M2; go_at_call 54; (with_reducible refine (eqB_any _ _ _ _ _ _ _ _ _ _ e3 HA3.out HB3.out).mono ?_); rintro e wy ⟨rfl, rfl⟩; have M3 := True.intro)
     | (clear M1; go_at_call 54; (with_reducible refine (eqB_any _ _ _ _ _ _ _ _ _ _ e2 HA2.out HB2.out).mono ?_); rintro e wy ⟨rfl, rfl⟩; have M2 := True.intro)
     | (clear M0; go_at_call 54; (with_reducible refine (eqB_any _ _ _ _ _ _ _ _ _ _ e1 HA1.out HB1.out).mono ?_); rintro e wy ⟨rfl, rfl⟩; have M1 := True.intro))
    go_ret
    exact ⟨congrArg (fun b => Ending.returned (.bool b)) (sameTp_no (fun h => ne_of_b e3 (congrArg Tp.z h))).symm, HS.out.below⟩
   | true =>
    cases e4 : sameSl (l.map Sg.p) (k.map Sg.p) with
    | false =>
     go_enter Tryz.func22, Tryz.ntmps22
     have M0 := True.intro
     go_wp2_with (first
      | (clear M3; go_at_call 55; (with_reducible refine (eqFn_any _ _ _ _ _ _ _ _ _ HL.out HK.out hn hm HA.out HB.out HX.out HY.out).mono ?_); rintro e wy ⟨rfl, hb⟩; rw [e4]; have HS := hide (HS.out.call hb); have M4 := True.intro)
      | (clear M2; go_at_call 54; (with_reducible refine (eqB_any _ _ _ _ _ _ _ _ _ _ e3 HA3.out HB3.out).mono ?_); rintro e wy ⟨rfl, rfl⟩; have M3 := True.intro)
      | (clear M1; go_at_call 54; (with_reducible refine (eqB_any _ _ _ _ _ _ _ _ _ _ e2 HA2.out HB2.out).mono ?_); rintro e wy ⟨rfl, rfl⟩; have M2 := True.intro)
      | (clear M0; go_at_call 54; (with_reducible refine (eqB_any _ _ _ _ _ _ _ _ _ _ e1 HA1.out HB1.out).mono ?_); rintro e wy ⟨rfl, rfl⟩; have M1 := True.intro))
     go_ret
     exact ⟨congrArg (fun b => Ending.returned (.bool b)) (sameTp_no (fun h => sameSl_not e4 (congrArg Tp.l h))).symm, HS.out.below⟩
    | true =>
     go_enter Tryz.func22, Tryz.ntmps22
     have M0 := True.intro
     go_wp2_with (first
      | (clear M3; go_at_call 55; (with_reducible refine (eqFn_any _ _ _ _ _ _ _ _ _ HL.out HK.out hn hm HA.out HB.out HX.out HY.out).mono ?_); rintro e wy ⟨rfl, hb⟩; rw [e4]; have HS := hide (HS.out.call hb); have M4 := True.intro)
      | (clear M2; go_at_call 54; (with_reducible refine (eqB_any _ _ _ _ _ _ _ _ _ _ e3 HA3.out HB3.out).mono ?_); rintro e wy ⟨rfl, rfl⟩; have M3 := True.intro)
      | (clear M1; go_at_call 54; (with_reducible refine (eqB_any _ _ _ _ _ _ _ _ _ _ e2 HA2.out HB2.out).mono ?_); rintro e wy ⟨rfl, rfl⟩; have M2 := True.intro)
      | (clear M0; go_at_call 54; (with_reducible refine (eqB_any _ _ _ _ _ _ _ _ _ _ e1 HA1.out HB1.out).mono ?_); rintro e wy ⟨rfl, rfl⟩; have M1 := True.intro))
     go_ret
     exact ⟨congrArg (fun b => Ending.returned (.bool b)) (sameTp_yes (by rw [eq_of_b e1, eq_of_b e2, eq_of_b e3, sameSl_of e4])).symm, HS.out.below⟩
theorem sameR_tok (A1 A2 A3 A B1 B2 B3 B : Option Addr) (m1 m2 m3 n c1 c2 c3 c p1 p2 p3 m d1 d2 d3 d : Nat) (l1 l2 l3 k1 k2 k3 : List UInt8) (l k : List Sg) (w : World) (hl : l.length = n) (hk : k.length = m) (hn : n ≤ 1000) (hm : m ≤ 1000)
  (ha1 : Rd w (.slice A1 m1 c1) 1 m1 (bvs l1)) (ha2 : Rd w (.slice A2 m2 c2) 1 m2 (bvs l2)) (ha3 : Rd w (.slice A3 m3 c3) 1 m3 (bvs l3)) (ha : Rd w (.slice A n c) 5 n (sgCells l)) (hx : ∀ x ∈ l, SgOK w x)
  (hb1 : Rd w (.slice B1 p1 d1) 1 p1 (bvs k1)) (hb2 : Rd w (.slice B2 p2 d2) 1 p2 (bvs k2)) (hb3 : Rd w (.slice B3 p3 d3) 1 p3 (bvs k3)) (hb : Rd w (.slice B m d) 5 m (sgCells k)) (hy : ∀ x ∈ k, SgOK w x) :
  Calls Tryz.prog 14 #[.agg #[.slice A1 m1 c1, .slice A n c, .slice A2 m2 c2, .slice A3 m3 c3], .agg #[.slice B1 p1 d1, .slice B m d, .slice B2 p2 d2, .slice B3 p3 d3]] w (fun e w' => e = .returned (.bool (sameTp ⟨l1, l.map Sg.p, l2, l3⟩ ⟨k1, k.map Sg.p, k2, k3⟩)) ∧ Below w.heap.size w w') := by
 have hS0 := ((St.init w NoB).alloc #[.slice A1 m1 c1, .slice A n c, .slice A2 m2 c2, .slice A3 m3 c3] 26).alloc #[.slice B1 p1 d1, .slice B m d, .slice B2 p2 d2, .slice B3 p3 d3] 26
 rw [size_alloc1] at hS0
 have HS := hide hS0
 clear hS0
 have HA1 := hide (ha1.below HS.out.below)
 have HA2 := hide (ha2.below HS.out.below)
 have HA3 := hide (ha3.below HS.out.below)
 have HA := hide (ha.below HS.out.below)
 have HB1 := hide (hb1.below HS.out.below)
 have HB2 := hide (hb2.below HS.out.below)
 have HB3 := hide (hb3.below HS.out.below)
 have HB := hide (hb.below HS.out.below)
 have HX := hide (fun x hm => (hx x hm).on HS.out.below)
 have HY := hide (fun x hm => (hy x hm).on HS.out.below)
 have HL := hide hl
 have HK := hide hk
 clear ha1 ha2 ha3 ha hx hb1 hb2 hb3 hb hy hl hk
 have ta0 : _ = some (Value.slice A1 m1 c1) := HS.out.cell 1 rfl 0
 have ta1 : _ = some (Value.slice A n c) := HS.out.cell 1 rfl 1
 have ta2 : _ = some (Value.slice A2 m2 c2) := HS.out.cell 1 rfl 2
 have ta3 : _ = some (Value.slice A3 m3 c3) := HS.out.cell 1 rfl 3
 have tb0 : _ = some (Value.slice B1 p1 d1) := HS.out.cell 0 rfl 0
 have tb1 : _ = some (Value.slice B m d) := HS.out.cell 0 rfl 1
 have tb2 : _ = some (Value.slice B2 p2 d2) := HS.out.cell 0 rfl 2
 have tb3 : _ = some (Value.slice B3 p3 d3) := HS.out.cell 0 rfl 3
 have cvA1 := run_str (P := Tryz.prog) Tryz.underlying22 Tryz.underlying5 Tryz.underlying9 HA1.out
 have cvA2 := run_str (P := Tryz.prog) Tryz.underlying22 Tryz.underlying5 Tryz.underlying9 HA2.out
 have cvA3 := run_str (P := Tryz.prog) Tryz.underlying22 Tryz.underlying5 Tryz.underlying9 HA3.out
 have cvB1 := run_str (P := Tryz.prog) Tryz.underlying22 Tryz.underlying5 Tryz.underlying9 HB1.out
 have cvB2 := run_str (P := Tryz.prog) Tryz.underlying22 Tryz.underlying5 Tryz.underlying9 HB2.out
 have cvB3 := run_str (P := Tryz.prog) Tryz.underlying22 Tryz.underlying5 Tryz.underlying9 HB3.out
 cases e1 : (l1 == k1) with
 | false =>
  have f1 : (l1 != k1) = true := by rw [bne, e1]; rfl
  go_enter Tryz.func14, Tryz.ntmps14
  go_wp2_with fail
  go_ret
  exact ⟨congrArg (fun b => Ending.returned (.bool b)) (sameTp_no (fun h => ne_of_b e1 (congrArg Tp.r h))).symm, HS.out.below⟩
 | true =>
  have f1 : (l1 != k1) = false := by rw [bne, e1]; rfl
  cases e2 : (l2 == k2) with
  | false =>
   have f2 : (l2 != k2) = true := by rw [bne, e2]; rfl
   go_enter Tryz.func14, Tryz.ntmps14
   go_wp2_with fail
   go_ret
   exact ⟨congrArg (fun b => Ending.returned (.bool b)) (sameTp_no (fun h => ne_of_b e2 (congrArg Tp.e h))).symm, HS.out.below⟩
  | true =>
   have f2 : (l2 != k2) = false := by rw [bne, e2]; rfl
   cases e3 : (l3 == k3) with
   | false =>
    have f3 : (l3 != k3) = true := by rw [bne, e3]; rfl
    go_enter Tryz.func14, Tryz.ntmps14
    go_wp2_with fail
    go_ret
    exact ⟨congrArg (fun b => Ending.returned (.bool b)) (sameTp_no (fun h => ne_of_b e3 (congrArg Tp.z h))).symm, HS.out.below⟩
   | true =>
    have f3 : (l3 != k3) = false := by rw [bne, e3]; rfl
    by_cases h1 : n ≠ m
    ·have d1 : ((n : Int) != (m : Int)) = true := by simp; omega
     have d2 : (n != m) = true := by simp; omega
     have HNE := hide (show (l.map Sg.p) ≠ (k.map Sg.p) from fun h => by
      have := congrArg List.length h
      rw [List.length_map, List.length_map, HL.out, HK.out] at this
      exact h1 this)
     clear h1
     go_enter Tryz.func14, Tryz.ntmps14
     go_wp2_with fail
     go_ret
     exact ⟨congrArg (fun b => Ending.returned (.bool b)) (sameTp_no (fun h => HNE.out (congrArg Tp.l h))).symm, HS.out.below⟩
    obtain rfl : n = m := Decidable.not_not.1 h1
    have HE := hide (And.intro (eq_of_b e1) (And.intro (eq_of_b e2) (eq_of_b e3)))
    clear h1 hm
    go_enter Tryz.func14, Tryz.ntmps14
    go_wp2_with fail
    clear e1 e2 e3 f1 f2 f3 cvA1 cvA2 cvA3 cvB1 cvB2 cvB3 ta0 ta2 ta3 tb0 tb2 tb3
    generalize World.alloc (World.alloc w _) _ = wb at HS HA HB HX HY ta1 tb1 ⊢
    go_loopw [45] (fun iv wr => ∃ (j : Nat), j ≤ n ∧ iv = .int .i64 (j : Int) ∧ (l.take j).map Sg.p = (k.take j).map Sg.p ∧ Hid (Below wb.heap.size wb wr)) (fun iv _ => n - (intOf iv).toNat)
    case atStart => exact ⟨0, by omega, rfl, rfl, Below.refl _ _⟩
    case round =>
     obtain ⟨j, hj, rfl, hpr, HB0⟩ := hrel
     have HPR := hide hpr
     clear hpr
     by_cases hlt : j < n
     ·have d0 : decide ((j : Int) < (n : Int)) = true := by simp; omega
      have d0' : decide (j < n) = true := by simp; omega
      have jn : (j : Int) < (n : Int) := by omega
      have hlk : l[j]? = some (l[j]'(by have := HL.out; omega)) := List.getElem?_eq_getElem _
      have hkk : k[j]? = some (k[j]'(by have := HK.out; omega)) := List.getElem?_eq_getElem _
      obtain ⟨b1, o1, rfl, h8, hc1⟩ := sg_at HA.out hlk
      obtain ⟨b2, o2, rfl, h9, hc2⟩ := sg_at HB.out hkk
      have HOX := hide (HX.out _ (List.mem_of_getElem? hlk))
      have HOY := hide (HY.out _ (List.mem_of_getElem? hkk))
      have HT1 := hide (show (l.take (j + 1)).map Sg.p = (l.take j).map Sg.p ++ [(l[j]'(by have := HL.out; omega)).p] by rw [List.take_add_one, hlk, List.map_append]; rfl)
      have HT2 := hide (show (k.take (j + 1)).map Sg.p = (k.take j).map Sg.p ++ [(k[j]'(by have := HK.out; omega)).p] by rw [List.take_add_one, hkk, List.map_append]; rfl)
      have HG1 := hide (show (l.map Sg.p)[j]? = some (l[j]'(by have := HL.out; omega)).p by rw [List.getElem?_map, hlk]; rfl)
      have HG2 := hide (show (k.map Sg.p)[j]? = some (k[j]'(by have := HK.out; omega)).p by rw [List.getElem?_map, hkk]; rfl)
      generalize l[j]'(_) = x at hlk hc1 HOX HT1 HG1
      generalize k[j]'(_) = y at hkk hc2 HOY HT2 HG2
      obtain ⟨⟨A1', ca1, l1'⟩, ⟨A2', ca2, l2'⟩, ⟨A3', ca3, l3'⟩, ⟨A4', ca4, l4'⟩, ⟨A5', ca5, l5'⟩⟩ := x
      obtain ⟨⟨B1', cb1, k1'⟩, ⟨B2', cb2, k2'⟩, ⟨B3', cb3, k3'⟩, ⟨B4', cb4, k4'⟩, ⟨B5', cb5, k5'⟩⟩ := y
      clear hlk hkk
      have HS1 := hide (HS.out.call HB0.out)
      have ta1 : _ = some (Value.slice _ n c) := HS1.out.cell 1 rfl 1
      have tb1 : _ = some (Value.slice _ n d) := HS1.out.cell 0 rfl 1
      obtain ⟨x0, x1, x2, x3, x4⟩ := hc1 _ HB0.out
      have HW := hide (St.init wr NoB)
      have M0 := True.intro
      go_upto_region 6 with (clear M0; refine wl_storeC rfl rfl (HW.out.alloc _ _) 0 rfl (vs := [.slice A1' l1'.length ca1, .slice A2' l2'.length ca2, .slice A3' l3'.length ca3, .slice A4' l4'.length ca4, .slice A5' l5'.length ca5]) szSigned (Nat.le_refl _) rfl rfl one5 ?_; intro w5 hS5; have HW := hide hS5; clear hS5)
      clear x0 x1 x2 x3 x4 ta1 tb1
      have HS2 := hide (HS1.out.call HW.out.below)
      have tb1 : _ = some (Value.slice _ n d) := HS2.out.cell 0 rfl 1
      obtain ⟨y0, y1, y2, y3, y4⟩ := hc2 _ (bnx HB0.out HW.out.below)
      have M0 := True.intro
      go_upto_region 7 with (clear M0; refine wl_storeC rfl rfl (HW.out.alloc _ _) 0 rfl (vs := [.slice B1' k1'.length cb1, .slice B2' k2'.length cb2, .slice B3' k3'.length cb3, .slice B4' k4'.length cb4, .slice B5' k5'.length cb5]) szSigned (Nat.le_refl _) rfl rfl one5 ?_; intro w6 hS5; have HW := hide hS5; clear hS5)
      clear y0 y1 y2 y3 y4 hc1 hc2 tb1
      have HBW := hide (bnx HB0.out HW.out.below)
      have x0 : _ = some (Value.slice A1' l1'.length ca1) := HW.out.cell 1 rfl 0
      have x1 : _ = some (Value.slice A2' l2'.length ca2) := HW.out.cell 1 rfl 1
      have x2 : _ = some (Value.slice A3' l3'.length ca3) := HW.out.cell 1 rfl 2
      have x3 : _ = some (Value.slice A4' l4'.length ca4) := HW.out.cell 1 rfl 3
      have x4 : _ = some (Value.slice A5' l5'.length ca5) := HW.out.cell 1 rfl 4
      have cwA1 := run_str (P := Tryz.prog) Tryz.underlying22 Tryz.underlying5 Tryz.underlying9 (show Rd w6 (.slice A1' l1'.length ca1) 1 l1'.length (bvs l1') from (HOX.out.on HBW.out).b)
      have cwA2 := run_str (P := Tryz.prog) Tryz.underlying22 Tryz.underlying5 Tryz.underlying9 (show Rd w6 (.slice A2' l2'.length ca2) 1 l2'.length (bvs l2') from (HOX.out.on HBW.out).n)
      have cwA3 := run_str (P := Tryz.prog) Tryz.underlying22 Tryz.underlying5 Tryz.underlying9 (show Rd w6 (.slice A3' l3'.length ca3) 1 l3'.length (bvs l3') from (HOX.out.on HBW.out).s)
      have cwA4 := run_str (P := Tryz.prog) Tryz.underlying22 Tryz.underlying5 Tryz.underlying9 (show Rd w6 (.slice A4' l4'.length ca4) 1 l4'.length (bvs l4') from (HOX.out.on HBW.out).k)
      have cwA5 := run_str (P := Tryz.prog) Tryz.underlying22 Tryz.underlying5 Tryz.underlying9 (show Rd w6 (.slice A5' l5'.length ca5) 1 l5'.length (bvs l5') from (HOX.out.on HBW.out).v)
      have y0 : _ = some (Value.slice B1' k1'.length cb1) := HW.out.cell 0 rfl 0
      have y1 : _ = some (Value.slice B2' k2'.length cb2) := HW.out.cell 0 rfl 1
      have y2 : _ = some (Value.slice B3' k3'.length cb3) := HW.out.cell 0 rfl 2
      have y3 : _ = some (Value.slice B4' k4'.length cb4) := HW.out.cell 0 rfl 3
      have y4 : _ = some (Value.slice B5' k5'.length cb5) := HW.out.cell 0 rfl 4
      have cwB1 := run_str (P := Tryz.prog) Tryz.underlying22 Tryz.underlying5 Tryz.underlying9 (show Rd w6 (.slice B1' k1'.length cb1) 1 k1'.length (bvs k1') from (HOY.out.on HBW.out).b)
      have cwB2 := run_str (P := Tryz.prog) Tryz.underlying22 Tryz.underlying5 Tryz.underlying9 (show Rd w6 (.slice B2' k2'.length cb2) 1 k2'.length (bvs k2') from (HOY.out.on HBW.out).n)
      have cwB3 := run_str (P := Tryz.prog) Tryz.underlying22 Tryz.underlying5 Tryz.underlying9 (show Rd w6 (.slice B3' k3'.length cb3) 1 k3'.length (bvs k3') from (HOY.out.on HBW.out).s)
      have cwB4 := run_str (P := Tryz.prog) Tryz.underlying22 Tryz.underlying5 Tryz.underlying9 (show Rd w6 (.slice B4' k4'.length cb4) 1 k4'.length (bvs k4') from (HOY.out.on HBW.out).k)
      have cwB5 := run_str (P := Tryz.prog) Tryz.underlying22 Tryz.underlying5 Tryz.underlying9 (show Rd w6 (.slice B5' k5'.length cb5) 1 k5'.length (bvs k5') from (HOY.out.on HBW.out).v)
      cases g1 : (l1' == k1') with
      | false =>
       have f1 : (l1' != k1') = true := by rw [bne, g1]; rfl
       go_wp2_with fail
       go_ret
       exact ⟨congrArg (fun b => Ending.returned (.bool b)) (sameTp_no (fun h => ne_of_b g1 (congrArg Sp.b (by
        have h1 := HG1.out
        rw [show l.map Sg.p = k.map Sg.p from congrArg Tp.l h, HG2.out] at h1
        exact (Option.some.inj h1).symm : Sp.mk l1' l2' l3' l4' l5' = Sp.mk k1' k2' k3' k4' k5')))).symm, bnx HS.out.below HBW.out⟩
      | true =>
       have f1 : (l1' != k1') = false := by rw [bne, g1]; rfl
       cases g2 : (l2' == k2') with
       | false =>
        have f2 : (l2' != k2') = true := by rw [bne, g2]; rfl
        go_wp2_with fail
        go_ret
        exact ⟨congrArg (fun b => Ending.returned (.bool b)) (sameTp_no (fun h => ne_of_b g2 (congrArg Sp.n (by
         have h1 := HG1.out
         rw [show l.map Sg.p = k.map Sg.p from congrArg Tp.l h, HG2.out] at h1
         exact (Option.some.inj h1).symm : Sp.mk l1' l2' l3' l4' l5' = Sp.mk k1' k2' k3' k4' k5')))).symm, bnx HS.out.below HBW.out⟩
       | true =>
        have f2 : (l2' != k2') = false := by rw [bne, g2]; rfl
        cases g3 : (l3' == k3') with
        | false =>
         have f3 : (l3' != k3') = true := by rw [bne, g3]; rfl
         go_wp2_with fail
         go_ret
         exact ⟨congrArg (fun b => Ending.returned (.bool b)) (sameTp_no (fun h => ne_of_b g3 (congrArg Sp.s (by
          have h1 := HG1.out
          rw [show l.map Sg.p = k.map Sg.p from congrArg Tp.l h, HG2.out] at h1
          exact (Option.some.inj h1).symm : Sp.mk l1' l2' l3' l4' l5' = Sp.mk k1' k2' k3' k4' k5')))).symm, bnx HS.out.below HBW.out⟩
        | true =>
         have f3 : (l3' != k3') = false := by rw [bne, g3]; rfl
         cases g4 : (l4' == k4') with
         | false =>
          have f4 : (l4' != k4') = true := by rw [bne, g4]; rfl
          go_wp2_with fail
          go_ret
          exact ⟨congrArg (fun b => Ending.returned (.bool b)) (sameTp_no (fun h => ne_of_b g4 (congrArg Sp.k (by
           have h1 := HG1.out
           rw [show l.map Sg.p = k.map Sg.p from congrArg Tp.l h, HG2.out] at h1
           exact (Option.some.inj h1).symm : Sp.mk l1' l2' l3' l4' l5' = Sp.mk k1' k2' k3' k4' k5')))).symm, bnx HS.out.below HBW.out⟩
         | true =>
          have f4 : (l4' != k4') = false := by rw [bne, g4]; rfl
          cases g5 : (l5' == k5') with
          | false =>
           have f5 : (l5' != k5') = true := by rw [bne, g5]; rfl
           go_wp2_with fail
           go_ret
           exact ⟨congrArg (fun b => Ending.returned (.bool b)) (sameTp_no (fun h => ne_of_b g5 (congrArg Sp.v (by
            have h1 := HG1.out
            rw [show l.map Sg.p = k.map Sg.p from congrArg Tp.l h, HG2.out] at h1
            exact (Option.some.inj h1).symm : Sp.mk l1' l2' l3' l4' l5' = Sp.mk k1' k2' k3' k4' k5')))).symm, bnx HS.out.below HBW.out⟩
          | true =>
           have f5 : (l5' != k5') = false := by rw [bne, g5]; rfl
           have HEQ := hide (show Sp.mk l1' l2' l3' l4' l5' = Sp.mk k1' k2' k3' k4' k5' by rw [eq_of_b g1, eq_of_b g2, eq_of_b g3, eq_of_b g4, eq_of_b g5])
           go_wp2_with fail
           go_roundw
           case rel => exact ⟨j + 1, by omega, by go_num, (by rw [HT1.out, HT2.out, HPR.out]; exact congrArg (fun z => List.map Sg.p (List.take j k) ++ [z]) HEQ.out), HBW.out⟩
           case measure => (simp [intOf]) <;> omega
     ·obtain rfl : j = n := by omega
      have d0 : decide ((j : Int) < (j : Int)) = false := by simp
      have d0' : decide (j < j) = false := by simp
      have hp := HPR.out
      rw [List.take_of_length_le (by rw [HL.out]; omega), List.take_of_length_le (by rw [HK.out]; omega)] at hp
      have HP := hide hp
      clear hp
      go_wp2_with fail
      go_ret
      exact ⟨congrArg (fun b => Ending.returned (.bool b)) (sameTp_yes (by rw [HE.out.1, HE.out.2.1, HE.out.2.2, HP.out])).symm, bnx HS.out.below HB0.out⟩
end Go.Proofs.YtnohmgpmmhlloaaGreatDoor

namespace Go.Proofs.YtnohmgpmmhlloaaGreatDoor
open Go.RowKit
set_option linter.unusedSimpArgs false
def Tp.few (p : Tp) : Prop := p.r.length ≤ 200 ∧ p.e.length ≤ 200 ∧ p.z.length ≤ 200 ∧ p.l.length ≤ 100 ∧ ∀ x ∈ p.l, x.b.length ≤ 900 ∧ x.n.length ≤ 900 ∧ x.s.length ≤ 900 ∧ x.k.length ≤ 900 ∧ x.v.length ≤ 900
theorem Tp.few.sm {p : Tp} (h : p.few) : p.sm := by
 obtain ⟨h1, h2, h3, h4, h5⟩ := h
 exact ⟨by omega, by omega, by omega, by omega, fun x hx => by obtain ⟨a, b, c, d, e⟩ := h5 x hx; exact ⟨by omega, by omega, by omega, by omega, by omega⟩⟩
section
variable {w0 w : World} {M : Nat → Prop} {H : List Chunk} {p : Tp} {B1 X B2 B3 : Option Addr} {m1 d1 n x m2 d2 m3 d3 : Nat} {V1 Y V2 V3 : Option Addr} {M1 e1 N y M2 e2 M3 e3 : Nat}
end
end Go.Proofs.YtnohmgpmmhlloaaGreatDoor

namespace Go.Proofs.YtnohmgpmmhlloaaGreatDoor
open Go.RowKit
set_option linter.unusedSimpArgs false
theorem row_rd {w0 w : World} {M : Nat → Prop} {H : List Chunk} {v : Value} {e : TypeId} {size n : Nat} {xs : List Value} (h : St w0 M w H) (hm : Chunk.row v e size n xs ∈ H) : Rd w v size n xs := by
 obtain ⟨i, hi⟩ := List.getElem?_of_mem hm
 exact h.rd i hi
end Go.Proofs.YtnohmgpmmhlloaaGreatDoor

namespace Go.Proofs.YtnohmgpmmhlloaaGreatDoor.S6
set_option maxRecDepth 100000
open Go.RowKit
set_option linter.unusedSimpArgs false
def tkC (last : Nat) (f : FdV) : Nat :=
 if f.whole = false ∨ f.num < last ∨ (f.num = last ∧ f.num ≠ 1) then 3
 else if f.num = 1 then match sgB f.b with
  | .bad k => k
  | .ok _ => 0
 else if f.num = 2 then 0
 else if f.num = 3 then 0
 else 3
theorem sgB_k {b : List UInt8} {k : Nat} (h : sgB b = .bad k) : k = 2 ∨ k = 3 := by
 unfold sgB at h
 cases hf : fds b with
 | bad j => rw [hf] at h; injection h with h; subst h; exact fds_bads b _ hf
 | ok fs =>
  rw [hf] at h
  replace h : (match sgR fs with | none => SgQ.bad 3 | some x => SgQ.ok x) = .bad k := h
  cases hs : sgR fs with
  | none => rw [hs] at h; injection h with h; exact .inr h.symm
  | some x => rw [hs] at h; cases h
theorem tkF_bad {last k : Nat} {f : FdV} (h : tkC last f = k) (hk : k ≠ 0) (t : Tp) (fs : List FdV) : tkF last t (f :: fs) = ⟨k, tp0⟩ := by
 unfold tkC at h
 unfold tkF
 split at h
 ·rename_i h1
  rw [if_pos h1, ← h]
 ·rename_i h1
  rw [if_neg h1]
  split at h
  ·rename_i h2
   rw [if_pos h2]
   cases hs : sgB f.b with
   | bad j => rw [hs] at h; rw [← h]
   | ok x => rw [hs] at h; exact absurd h.symm hk
  ·rename_i h2
   rw [if_neg h2]
   split at h
   ·exact absurd h.symm hk
   ·rename_i h3
    rw [if_neg h3]
    split at h
    ·exact absurd h.symm hk
    ·rename_i h4
     rw [if_neg h4, ← h]
theorem takes_form (g : Nat) (X : Option Addr) (nb xc fn last : Nat) (num : Nat) (wh : Bool) (w : World) (h : wh = false ∨ num < last ∨ (num = last ∧ num ≠ 1)) :
  Calls Tryz.prog 65 #[.pointer (some ⟨g, 0, none⟩), .agg #[.int .i64 (num : Int), .bool wh, .int .u64 (fn : Int), .slice X nb xc], .int .i64 (last : Int)] w fun e w' => e = .returned (.int .i64 3) ∧ Below w.heap.size w w' := by
 have HS := hide ((St.init w NoB).alloc #[.int .i64 (num : Int), .bool wh, .int .u64 (fn : Int), .slice X nb xc] 93)
 have t0 : _ = some (Value.int .i64 (num : Int)) := HS.out.cell 0 rfl 0
 have t1 : _ = some (Value.bool wh) := HS.out.cell 0 rfl 1
 have h' : wh = false ∨ (wh = true ∧ num < last) ∨ (wh = true ∧ num = last ∧ num ≠ 1) := by
  cases wh
  ·exact .inl rfl
  ·rcases h with h | h | h
   ·cases h
   ·exact .inr (.inl ⟨rfl, h⟩)
   ·exact .inr (.inr ⟨rfl, h⟩)
 clear h
 rcases h' with rfl | ⟨rfl, h⟩ | ⟨rfl, rfl, h⟩
 ·go_enter Tryz.func65, Tryz.ntmps65
  go_wp2_with fail
  go_ret
  exact ⟨rfl, HS.out.below⟩
 ·have d1 : decide ((num : Int) < (last : Int)) = true := by simp; omega
  have d1' : decide (num < last) = true := by simp; omega
  go_enter Tryz.func65, Tryz.ntmps65
  go_wp2_with fail
  go_ret
  exact ⟨rfl, HS.out.below⟩
 ·have d3 : ((num : Int) != 1) = true := by simp; omega
  have d3' : decide ((num : Int) = 1) = false := by simp; omega
  go_enter Tryz.func65, Tryz.ntmps65
  go_wp2_with fail
  go_ret
  exact ⟨rfl, HS.out.below⟩
theorem takes_other (g : Nat) (X : Option Addr) (nb xc fn last : Nat) (num : Nat) (w : World) (h : 3 < num) (h2 : ¬ num < last) (h3 : num ≠ last) :
  Calls Tryz.prog 65 #[.pointer (some ⟨g, 0, none⟩), .agg #[.int .i64 (num : Int), .bool true, .int .u64 (fn : Int), .slice X nb xc], .int .i64 (last : Int)] w fun e w' => e = .returned (.int .i64 3) ∧ Below w.heap.size w w' := by
 have HS := hide ((St.init w NoB).alloc #[.int .i64 (num : Int), .bool true, .int .u64 (fn : Int), .slice X nb xc] 93)
 have t0 : _ = some (Value.int .i64 (num : Int)) := HS.out.cell 0 rfl 0
 have t1 : _ = some (Value.bool true) := HS.out.cell 0 rfl 1
 have d1 : decide ((num : Int) < (last : Int)) = false := by simp; omega
 have d1' : decide (num < last) = false := by simp; omega
 have d2 : ((num : Int) == (last : Int)) = false := by simp; omega
 have d2' : decide ((num : Int) = (last : Int)) = false := by simp; omega
 have d2'' : decide (num = last) = false := by simp; omega
 have d2b : (num == last) = false := by simp; omega
 have e1 : ((num : Int) == 1) = false := by simp; omega
 have e1' : decide ((num : Int) = 1) = false := by simp; omega
 have e2 : ((num : Int) == 2) = false := by simp; omega
 have e2' : decide ((num : Int) = 2) = false := by simp; omega
 have e3 : ((num : Int) == 3) = false := by simp; omega
 have e3' : decide ((num : Int) = 3) = false := by simp; omega
 clear h h2 h3
 go_enter Tryz.func65, Tryz.ntmps65
 go_wp2_with fail
 go_ret
 exact ⟨rfl, HS.out.below⟩
section
variable {w0 w : World} {M : Nat → Prop} {H : List Chunk}
theorem takes_seed (g : Nat) (X : Option Addr) (nb xc fn last : Nat) (r : Value) (Y : Option Addr) (n y : Nat) (e z : Value) (h : last < 2) (hS : St w0 M w (.cells g #[r, .slice Y n y, e, z] 26 :: H)) :
  Calls Tryz.prog 65 #[.pointer (some ⟨g, 0, none⟩), .agg #[.int .i64 2, .bool true, .int .u64 (fn : Int), .slice X nb xc], .int .i64 (last : Int)] w fun e9 w' => e9 = .returned (.int .i64 0) ∧ St w0 M w' (.cells g #[r, .slice Y n y, .slice X nb xc, z] 26 :: H) := by
 have HS := hide (hS.alloc #[.int .i64 2, .bool true, .int .u64 (fn : Int), .slice X nb xc] 93)
 have t0 : _ = some (Value.int .i64 2) := HS.out.cell 0 rfl 0
 have t1 : _ = some (Value.bool true) := HS.out.cell 0 rfl 1
 have t3 : _ = some (Value.slice X nb xc) := HS.out.cell 0 rfl 3
 have q : _ = some _ := HS.out.cell 1 rfl 2
 have f := HS.out.free 1 rfl 2
 clear hS
 rcases (show last = 0 ∨ last = 1 by omega) with rfl | rfl
 all_goals
  go_enter Tryz.func65, Tryz.ntmps65
  go_wp2_with fail
  go_ret
  exact ⟨rfl, (HS.out.setCell 1 rfl 2 (.slice X nb xc)).tail⟩
theorem takes_seal (g : Nat) (X : Option Addr) (nb xc fn last : Nat) (r : Value) (Y : Option Addr) (n y : Nat) (e z : Value) (h : last < 3) (hS : St w0 M w (.cells g #[r, .slice Y n y, e, z] 26 :: H)) :
  Calls Tryz.prog 65 #[.pointer (some ⟨g, 0, none⟩), .agg #[.int .i64 3, .bool true, .int .u64 (fn : Int), .slice X nb xc], .int .i64 (last : Int)] w fun e9 w' => e9 = .returned (.int .i64 0) ∧ St w0 M w' (.cells g #[r, .slice Y n y, e, .slice X nb xc] 26 :: H) := by
 have HS := hide (hS.alloc #[.int .i64 3, .bool true, .int .u64 (fn : Int), .slice X nb xc] 93)
 have t0 : _ = some (Value.int .i64 3) := HS.out.cell 0 rfl 0
 have t1 : _ = some (Value.bool true) := HS.out.cell 0 rfl 1
 have t3 : _ = some (Value.slice X nb xc) := HS.out.cell 0 rfl 3
 have q : _ = some _ := HS.out.cell 1 rfl 3
 have f := HS.out.free 1 rfl 3
 clear hS
 rcases (show last = 0 ∨ last = 1 ∨ last = 2 by omega) with rfl | rfl | rfl
 all_goals
  go_enter Tryz.func65, Tryz.ntmps65
  go_wp2_with fail
  go_ret
  exact ⟨rfl, (HS.out.setCell 1 rfl 3 (.slice X nb xc)).tail⟩
def SgX (G : List Chunk) (kk : Nat) (y : Sg) : SgQ → Prop
 | .ok x => kk = 0 ∧ y.p = x ∧ SgIn G y
 | .bad k => kk = k
theorem sgX_of {w w' : World} {q : SgQ} {e : Ending} (h : SgD w q e w') : ∃ (y : Sg) (G : List Chunk) (kk : Nat), e = .returned (.tuple #[y.val, .int .i64 (kk : Int)]) ∧ SgX G kk y q ∧ St w NoB w' G := by
 cases q with
 | ok x =>
  obtain ⟨y, G, h1, h2, h3, h4⟩ := h
  exact ⟨y, G, 0, h1, ⟨rfl, h2, h3⟩, h4⟩
 | bad k =>
  obtain ⟨h1, h2⟩ := h
  exact ⟨⟨pc0, pc0, pc0, pc0, pc0⟩, [], k, h1, rfl, (St.init w NoB).call h2⟩
theorem takes_blk (g : Nat) (X : Option Addr) (nb xc fn last : Nat) (r : Value) (Y : Option Addr) (n y : Nat) (zs : List Sg) (e z : Value) (fb : List UInt8) (hl : fb.length = nb) (hn : nb ≤ 65536) (hn2 : n ≤ 100000) (hlast : last ≤ 1) (hr : Rd w (.slice X nb xc) 1 nb (bvs fb)) (hS : St w0 M w (.cells g #[r, .slice Y n y, e, z] 26 :: .row (.slice Y n y) 32 5 n (sgCells zs) :: H)) :
  Calls Tryz.prog 65 #[.pointer (some ⟨g, 0, none⟩), .agg #[.int .i64 1, .bool true, .int .u64 (fn : Int), .slice X nb xc], .int .i64 (last : Int)] w fun e9 w' => ∃ Y' y' yy G kk, e9 = .returned (.int .i64 (kk : Nat)) ∧ SgX G kk yy (sgB fb) ∧ St w0 M w' (.cells g #[r, .slice Y' (n + 1) y', e, z] 26 :: .row (.slice Y' (n + 1) y') 32 5 (n + 1) (sgCells (zs ++ [yy])) :: (H ++ G)) := by
 have HS := hide (hS.alloc #[.int .i64 1, .bool true, .int .u64 (fn : Int), .slice X nb xc] 93)
 have HR := hide (hr.below (((Below.refl w.heap.size w).alloc (Nat.le_refl _) (.cells #[.int .i64 1, .bool true, .int .u64 (fn : Int), .slice X nb xc] 93))))
 have HC := hide (signedOf_any X nb xc fb _ hl hn HR.out)
 have t0 : _ = some (Value.int .i64 1) := HS.out.cell 0 rfl 0
 have t1 : _ = some (Value.bool true) := HS.out.cell 0 rfl 1
 have t3 : _ = some (Value.slice X nb xc) := HS.out.cell 0 rfl 3
 clear hS hr HR hl hn
 rcases (show last = 0 ∨ last = 1 by omega) with rfl | rfl
 all_goals
  go_enter Tryz.func65, Tryz.ntmps65
  have M0 := True.intro
  go_upto_region 7 with (first
   | (clear M1; refine wl_storeC rfl rfl (HS.out.alloc _ _) 0 rfl (vs := [.slice E1 y1.length f1, .slice E2 y2.length f2, .slice E3 y3.length f3, .slice E4 y4.length f4, .slice E5 y5.length f5]) szSigned (Nat.le_refl _) rfl rfl one5 ?_; intro w5 hS5; have HS5 := hide hS5; clear hS5; have M2 := True.intro)
   | (clear M0; go_at_call 114; (with_reducible refine HC.out.mono ?_); rintro e9 w2 h2; obtain ⟨⟨⟨E1, f1, y1⟩, ⟨E2, f2, y2⟩, ⟨E3, f3, y3⟩, ⟨E4, f4, y4⟩, ⟨E5, f5, y5⟩⟩, G, kk, rfl, hX, hS2⟩ := sgX_of h2; rw [Sg.val_eq]; have HS := hide (St.rot _ _ (HS.out.join hS2)); have HX := hide hX; clear hS2 hX h2; have M1 := True.intro))
  have HS : Hid (St w0 M w5 (.cells w2.heap.size #[.slice E1 y1.length f1, .slice E2 y2.length f2, .slice E3 y3.length f3, .slice E4 y4.length f4, .slice E5 y5.length f5] 32 :: .cells w.heap.size #[.int .i64 1, .bool true, .int .u64 (fn : Int), .slice X nb xc] 93 :: .cells g #[r, .slice Y n y, e, z] 26 :: .row (.slice Y n y) 32 5 n (sgCells zs) :: (H ++ G))) := HS5
  clear HS5
  refine wp_region_S (.op 0 1 (.op 1 1 (.op 2 1 (.op 3 1 (.op 4 0 (.op 5 2 (.op 6 2 (.op 7 3 (.op 8 1 (.op 9 1 (.op 10 4 (.nil)))))))))))) (by kernel_rfl) (by kernel_rfl) (fun _ _ _ _ h => h) ?_
  have HS := hide HS.out.drew
  generalize w5.drew = w6 at HS ⊢
  have t2 : _ = some (Value.slice Y n y) := HS.out.cell 2 rfl 1
  have s1 : _ = some (Value.slice E1 y1.length f1) := HS.out.cell 0 rfl 0
  have s2 : _ = some (Value.slice E2 y2.length f2) := HS.out.cell 0 rfl 1
  have s3 : _ = some (Value.slice E3 y3.length f3) := HS.out.cell 0 rfl 2
  have s4 : _ = some (Value.slice E4 y4.length f4) := HS.out.cell 0 rfl 3
  have s5 : _ = some (Value.slice E5 y5.length f5) := HS.out.cell 0 rfl 4
  have hbA := (Below.refl w6.heap.size w6).alloc (Nat.le_refl _) (.cells #[.slice E1 y1.length f1, .slice E2 y2.length f2, .slice E3 y3.length f3, .slice E4 y4.length f4, .slice E5 y5.length f5] 32)
  have M0 := True.intro
  go_wp2_with (first
   | (clear M0; refine wpS_late rfl rfl ?_; intro K hK; refine wp_append rfl tySg (HS.out.skip _) 3 rfl rfl rfl (rd_new _ [.slice E1 y1.length f1, .slice E2 y2.length f2, .slice E3 y3.length f3, .slice E4 y4.length f4, .slice E5 y5.length f5] 32 5 1 rfl (by decide)) one5 (by omega) (by decide) ?_; intro A7 c7 w7 hS7; have HS := hide hS7; clear hS7; have q8 : _ = some (Value.slice Y n y) := HS.out.cell 2 rfl 1; have g8 := HS.out.free 2 rfl 1; have M1 := True.intro)
   | (refine wpS_nil ?_)   | ((with_reducible refine fromT_refl ?_); (try simp only [Act.put, nq1, nq2, nq3, nq4, nq5, nq6]))   | ((with_reducible refine fromT_mk (by assumption) ?_); (try simp only [Act.put, nq1, nq2, nq3, nq4, nq5, nq6]))   | (refine wpS_pure (v := ?_) rfl rfl ?_ ?_; rotate_left; (intro wx; go_simp; try go_bits) <;> (with_reducible rfl); (try simp only [Act.put, nq1, nq2, nq3, nq4, nq5, nq6]))   | (refine wpS_load (v := ?_) rfl rfl rfl ?_ ?_; rotate_left; (go_simp; try go_bits) <;> (with_reducible rfl); (try simp only [Act.put, nq1, nq2, nq3, nq4, nq5, nq6]))   | (refine wpS_read (v := ?_) rfl rfl ?_ ?_; rotate_left; (intro wx hx; go_simp; try go_bits) <;> (with_reducible rfl); (try simp only [Act.put, nq1, nq2, nq3, nq4, nq5, nq6]))   | (refine wpS_call rfl rfl ?_; intro K hK)   | (refine wpS_late rfl rfl ?_; intro K hK)   | (refine wpS_any rfl rfl ?_; intro K hK)   | (refine wpS_skip rfl rfl ?_; (try simp only [Act.put, nq1, nq2, nq3, nq4, nq5, nq6])))
  have HS := hide (HS.out.setCell 2 rfl 1 (.slice A7 (n + 1) c7))
  go_ret
  refine ⟨A7, c7, ⟨⟨E1, f1, y1⟩, ⟨E2, f2, y2⟩, ⟨E3, f3, y3⟩, ⟨E4, f4, y4⟩, ⟨E5, f5, y5⟩⟩, G, kk, rfl, HX.out, ?_⟩
  rw [sgCells_app]
  exact HS.out.tail.tail
end
end Go.Proofs.YtnohmgpmmhlloaaGreatDoor.S6

namespace Go.Proofs.YtnohmgpmmhlloaaGreatDoor.S6
set_option maxRecDepth 100000
open Go.RowKit
set_option linter.unusedSimpArgs false
theorem st_front {w0 w : World} {M : Nat → Prop} {A B : List Chunk} (h : St w0 M w (A ++ B)) : St w0 M w A := by
 have key : ∀ (i : Nat) (c : Chunk), A[i]? = some c → (A ++ B)[i]? = some c := fun i c hc => by
  rw [List.getElem?_append_left (List.getElem?_eq_some_iff.1 hc).1]
  exact hc
 exact ⟨h.ext, fun i c hc => h.sat i c (key i c hc), fun i c k hc => h.own i c k (key i c hc), fun i j c d k hij hc hd => h.apart i j c d k hij (key i c hc) (key j d hd)⟩
section
variable {w0 w : World} {M : Nat → Prop} {H : List Chunk}
theorem takes_bad (g : Nat) (f : FdL) (last kk : Nat) (r : Value) (Y : Option Addr) (n y : Nat) (zs : List Sg) (e z : Value) (hc : tkC last f.f = kk) (hk : kk ≠ 0) (hn : n ≤ 100000) (hb : f.f.b.length ≤ 65536) (hf : FdL.chunk f ∈ H) (hS : St w0 M w (.cells g #[r, .slice Y n y, e, z] 26 :: .row (.slice Y n y) 32 5 n (sgCells zs) :: H)) :
  Calls Tryz.prog 65 #[.pointer (some ⟨g, 0, none⟩), .agg #[.int .i64 (f.f.num : Int), .bool f.f.whole, .int .u64 (f.f.n : Int), .slice f.A f.f.b.length f.c], .int .i64 (last : Int)] w fun e9 w' => e9 = .returned (.int .i64 (kk : Int)) ∧ St w0 M w' H := by
 obtain ⟨⟨num, wh, fn, b⟩, X, xc⟩ := f
 have hr : Rd w (.slice X b.length xc) 1 b.length (bvs b) := ch_ok (p := ⟨X, xc, b⟩) hS (List.mem_cons_of_mem _ (List.mem_cons_of_mem _ hf))
 by_cases h1 : wh = false ∨ num < last ∨ (num = last ∧ num ≠ 1)
 ·obtain rfl : kk = 3 := by rw [← hc]; exact if_pos h1
  refine (takes_form g X b.length xc fn last num wh w h1).mono ?_
  rintro e9 w' ⟨rfl, h⟩
  exact ⟨rfl, (hS.call h).tail.tail⟩
 ·have hw : wh = true := by cases wh; exact absurd (.inl rfl) h1; rfl
  subst hw
  have hnl : ¬ num < last := fun h => h1 (.inr (.inl h))
  have hne : num ≠ last ∨ num = 1 := by
   by_cases h : num = last
   ·by_cases h2 : num = 1
    ·exact .inr h2
    ·exact absurd (.inr (.inr ⟨h, h2⟩)) h1
   ·exact .inl h
  replace hc : (if num = 1 then (match sgB b with | .bad k => k | .ok _ => 0) else if num = 2 then 0 else if num = 3 then 0 else 3) = kk := by rw [← hc]; exact (if_neg h1).symm
  by_cases h2 : num = 1
  ·subst h2
   rw [if_pos rfl] at hc
   refine (takes_blk g X b.length xc fn last r Y n y zs e z b rfl hb hn (by omega) hr hS).mono ?_
   rintro e9 w' ⟨Y', y', yy, G, kk', rfl, hX, hS'⟩
   cases hs : sgB b with
   | ok x => rw [hs] at hc; exact absurd hc.symm hk
   | bad k =>
    rw [hs] at hc hX
    obtain rfl : k = kk := hc
    obtain rfl : kk' = k := hX
    exact ⟨rfl, st_front hS'.tail.tail⟩
  ·rw [if_neg h2] at hc
   by_cases h3 : num = 2
   ·rw [if_pos h3] at hc; exact absurd hc.symm hk
   ·rw [if_neg h3] at hc
    by_cases h4 : num = 3
    ·rw [if_pos h4] at hc; exact absurd hc.symm hk
    ·rw [if_neg h4] at hc
     subst hc
     have h5 : num ≠ last := by rcases hne with h | h; exact h; exact absurd h h2
     refine (takes_other g X b.length xc fn last num w (by omega) hnl h5).mono ?_
     rintro e9 w' ⟨rfl, h⟩
     exact ⟨rfl, (hS.call h).tail.tail⟩
structure TkHd (H : List Chunk) (zs : List Sg) (e z : PcV) : Prop where
 l : ∀ y ∈ zs, SgIn H y
 e : e.ch ∈ H
 z : z.ch ∈ H
theorem takes_good (g : Nat) (f : FdL) (last : Nat) (r : Value) (Y : Option Addr) (n y : Nat) (zs : List Sg) (e z : PcV) (root : List UInt8) (fs : List FdV) (hc : tkC last f.f = 0) (hn : n ≤ 100000) (hb : f.f.b.length ≤ 65536) (K : List Chunk) (hK : ∀ c ∈ K, c ∈ H) (hf : FdL.chunk f ∈ K) (hz : zs.length = n) (hH : TkHd K zs e z) (hS : St w0 M w (.cells g #[r, .slice Y n y, e.v, z.v] 26 :: .row (.slice Y n y) 32 5 n (sgCells zs) :: H)) :
  Calls Tryz.prog 65 #[.pointer (some ⟨g, 0, none⟩), .agg #[.int .i64 (f.f.num : Int), .bool f.f.whole, .int .u64 (f.f.n : Int), .slice f.A f.f.b.length f.c], .int .i64 (last : Int)] w fun e9 w' => ∃ Y' n' y' zs' e' z' G, e9 = .returned (.int .i64 0) ∧ St w0 M w' (.cells g #[r, .slice Y' n' y', PcV.v e', PcV.v z'] 26 :: .row (.slice Y' n' y') 32 5 n' (sgCells zs') :: (H ++ G)) ∧ zs'.length = n' ∧ n' ≤ n + 1 ∧ TkHd (K ++ G) zs' e' z' ∧ tkF last ⟨root, zs.map Sg.p, e.b, z.b⟩ (f.f :: fs) = tkF f.f.num ⟨root, zs'.map Sg.p, e'.b, z'.b⟩ fs := by
 obtain ⟨⟨num, wh, fn, b⟩, X, xc⟩ := f
 have hr : Rd w (.slice X b.length xc) 1 b.length (bvs b) := ch_ok (p := ⟨X, xc, b⟩) hS (List.mem_cons_of_mem _ (List.mem_cons_of_mem _ (hK _ hf)))
 have h1 : ¬ (wh = false ∨ num < last ∨ (num = last ∧ num ≠ 1)) := fun h => by
  rw [show tkC last ⟨num, wh, fn, b⟩ = 3 from if_pos h] at hc
  cases hc
 have hw : wh = true := by cases wh; exact absurd (.inl rfl) h1; rfl
 subst hw
 have hnl : ¬ num < last := fun h => h1 (.inr (.inl h))
 have hne : num ≠ last ∨ num = 1 := by
  by_cases h : num = last
  ·by_cases h2 : num = 1
   ·exact .inr h2
   ·exact absurd (.inr (.inr ⟨h, h2⟩)) h1
  ·exact .inl h
 replace hc : (if num = 1 then (match sgB b with | .bad k => k | .ok _ => 0) else if num = 2 then 0 else if num = 3 then 0 else 3) = 0 := Eq.trans (Eq.symm (if_neg h1)) hc
 have hF : ∀ t : Tp, tkF last t (⟨num, true, fn, b⟩ :: fs) = (if num = 1 then match sgB b with
   | .bad k => ⟨k, tp0⟩
   | .ok x => tkF 1 ⟨t.r, t.l ++ [x], t.e, t.z⟩ fs
  else if num = 2 then tkF 2 ⟨t.r, t.l, b, t.z⟩ fs
  else if num = 3 then tkF 3 ⟨t.r, t.l, t.e, b⟩ fs
  else ⟨3, tp0⟩) := fun t => by
  rw [tkF]
  exact if_neg h1
 rw [hF]
 by_cases h2 : num = 1
 ·subst h2
  rw [if_pos rfl] at hc
  refine (takes_blk g X b.length xc fn last r Y n y zs e.v z.v b rfl hb hn (by omega) hr hS).mono ?_
  rintro e9 w' ⟨Y', y', yy, G, kk', rfl, hX, hS'⟩
  cases hs : sgB b with
  | bad k =>
   rw [hs] at hc
   have := sgB_k hs
   replace hc : k = 0 := hc
   omega
  | ok x =>
   rw [hs] at hX
   obtain ⟨rfl, hp, hG⟩ := hX
   refine ⟨Y', n + 1, y', zs ++ [yy], e, z, G, rfl, hS', by rw [List.length_append, hz]; rfl, Nat.le_refl _, ⟨fun v hv => ?_, List.mem_append_left _ hH.e, List.mem_append_left _ hH.z⟩, ?_⟩
   ·rcases List.mem_append.1 hv with h | h
    ·exact (hH.l v h).mono fun c hc => List.mem_append_left _ hc
    ·rw [List.mem_singleton.1 h]
     exact hG.mono fun c hc => List.mem_append_right _ hc
   ·rw [if_pos rfl, List.map_append, ← hp]
    rfl
 ·rw [if_neg h2] at hc
  by_cases h3 : num = 2
  ·subst h3
   refine (takes_seed g X b.length xc fn last r Y n y e.v z.v (by rcases hne with h | h <;> omega) hS).mono ?_
   rintro e9 w' ⟨rfl, h⟩
   refine ⟨Y, n, y, zs, ⟨X, xc, b⟩, z, [], rfl, by rw [List.append_nil]; exact h, hz, Nat.le_succ _, ?_, ?_⟩
   ·rw [List.append_nil]
    exact ⟨hH.l, hf, hH.z⟩
   ·rw [if_neg h2, if_pos rfl]
  ·rw [if_neg h3] at hc
   by_cases h4 : num = 3
   ·subst h4
    refine (takes_seal g X b.length xc fn last r Y n y e.v z.v (by rcases hne with h | h <;> omega) hS).mono ?_
    rintro e9 w' ⟨rfl, h⟩
    refine ⟨Y, n, y, zs, e, ⟨X, xc, b⟩, [], rfl, by rw [List.append_nil]; exact h, hz, Nat.le_succ _, ?_, ?_⟩
    ·rw [List.append_nil]
     exact ⟨hH.l, hH.e, hf⟩
    ·rw [if_neg h2, if_neg h3, if_pos rfl]
   ·rw [if_neg h4] at hc
    cases hc
end
theorem dec_bad {raw root : List UInt8} {k : Nat} (h : fds raw = .bad k) : decRz raw root = ⟨k, tp0⟩ := by unfold decRz; rw [h]
theorem dec_ok {raw root : List UInt8} {fs : List FdV} {r : Rz} (h : fds raw = .ok fs) (h2 : tkF 0 ⟨root, [], [], []⟩ fs = r) : decRz raw root = if r.c ≠ 0 then ⟨r.c, tp0⟩ else if r.p.l.length = 0 ∨ 8 < r.p.l.length then ⟨3, tp0⟩ else ⟨0, r.p⟩ := by
 unfold decRz
 rw [h]
 show (if (tkF 0 ⟨root, [], [], []⟩ fs).c ≠ 0 then _ else _) = _
 rw [h2]
theorem dec_perm (a b c d e f : Chunk) (H : List Chunk) : (a :: b :: c :: d :: e :: f :: H).Perm (c :: a :: d :: e :: f :: b :: H) := by
 have h1 : (a :: b :: c :: d :: e :: f :: H).Perm (c :: a :: b :: d :: e :: f :: H) := (List.Perm.cons a (List.Perm.swap c b _)).trans (List.Perm.swap c a _)
 refine h1.trans (List.Perm.cons c (List.Perm.cons a ?_))
 exact (List.Perm.swap d b _).trans (List.Perm.cons d ((List.Perm.swap e b _).trans (List.Perm.cons e (List.Perm.swap f b _))))
theorem decode_any (A Ar : Option Addr) (n c nr cr : Nat) (raw root : List UInt8) (w : World) (hl : raw.length = n) (hn : n ≤ 65536) (hlr : root.length = nr) (hnr : nr ≤ 1000000) (hr : Rd w (.slice A n c) 1 n (bvs raw)) (hrr : Rd w (.slice Ar nr cr) 1 nr (bvs root)) :
  Calls Tryz.prog 26 #[.slice A n c, .slice Ar nr cr] w (TkQ w (decRz raw root)) := by
 have HS := hide ((St.init w NoB).alloc #[.slice none 0 0, .slice none 0 0, .slice none 0 0, .slice none 0 0] 26)
 have HRR := hide hrr
 have HLR := hide hlr
 have HF := fields_walk _ A c raw (by omega) (hl ▸ hr.st HS.out)
 rw [hl] at HF
 cases hf : fds raw with
 | bad k =>
  have HD := hide (dec_bad (root := root) hf)
  rw [hf] at HF
  have HC := hide HF
  have hk : k = 2 ∨ k = 3 := fds_bads raw k hf
  have d0 : ((k : Int) != 0) = true := by simp; omega
  have d0' : decide ((k : Int) = 0) = false := by simp; omega
  clear HF hr hk hrr hlr hl
  go_enter Tryz.func26, Tryz.ntmps26
  have M0 := True.intro
  go_wp2_with (first
   | (clear M2; refine wl_storeC rfl rfl (HS.out.alloc _ _) 0 rfl (vs := [.slice Br nr dr, .slice none 0 0, .slice none 0 0, .slice none 0 0]) szToken (Nat.le_refl _) rfl rfl one4 ?_; intro w5 hS5; have HS := hide hS5; clear hS5; have M3 := True.intro)
   | (clear M1; go_at_call 33; (with_reducible refine (clone_b _ HLR.out (by omega) (HRR.out.below HS.out.below)).mono ?_); rintro e w3 ⟨Br, dr, rfl, hb, ho⟩; have HS := hide (HS.out.row hb ho); clear ho hb; have M2 := True.intro)
   | (clear M0; go_at_call 64; (with_reducible refine HC.out.mono ?_); rintro e w2 ⟨rfl, hb⟩; have HS := hide (HS.out.call hb); clear hb; have M1 := True.intro))
  refine wp_loop_rounds 1 ?_
  rw [rounds_succ]
  go_wp2_with (refine wl_storeC rfl rfl HS.out 2 rfl (vs := [.slice none 0 0, .slice none 0 0, .slice none 0 0, .slice none 0 0]) szToken (Nat.le_refl _) rfl rfl one4 ?_; intro w7 hS7; have HS7 := hide hS7; clear hS7)
  refine bodyPost_ret (results_cell_tmp_row rfl _ _ w.heap.size _ _ _ _ rfl (HS7.out.heap 2 rfl) Tryz.underlying26 rfl (by kernel_rfl)) rfl ?_
  rw [HD.out]
  exact tkQ_no ⟨rfl, HS7.out.below⟩
 | ok fs =>
  rw [hf] at HF
  have HC := hide HF
  have HFS := hide hf
  clear HF hr hf hrr hlr
  go_enter Tryz.func26, Tryz.ntmps26
  have M0 := True.intro
  go_upto_region 3 with (first
   | (clear M2; refine wl_storeC rfl rfl (HS.out.alloc _ _) 0 rfl (vs := [.slice Br nr dr, .slice none 0 0, .slice none 0 0, .slice none 0 0]) szToken (Nat.le_refl _) rfl rfl one4 ?_; intro w5 hS5; have HS5 := hide hS5; clear hS5; have M3 := True.intro)
   | (clear M1; go_at_call 33; (with_reducible refine (clone_b _ HLR.out (by omega) (HRR.out.below HS.out.below)).mono ?_); rintro e w3 ⟨Br, dr, rfl, hb, ho⟩; have HS := hide (HS.out.row hb ho); clear ho hb; have M2 := True.intro)
   | (clear M0; go_at_call 64; (with_reducible refine HC.out.mono ?_); rintro e w2 ⟨xs, B, d, rfl, hx, hS2⟩; have HS : Hid (St w NoB w2 (.cells w.heap.size #[.slice none 0 0, .slice none 0 0, .slice none 0 0, .slice none 0 0] 26 :: .row (.slice B xs.length d) 93 4 xs.length (cellsF xs) :: chunksF xs)) := hide (St.rot _ [_] (HS.out.join hS2)); have HX := hide hx; clear hS2 hx; have M1 := True.intro))
  obtain ⟨m, hm⟩ : ∃ m, xs.length = m := ⟨_, rfl⟩
  rw [hm] at HS5 ⊢
  have HM := hide hm
  have hm6 : m ≤ 65536 := by
   have h1 := fds_len raw fs HFS.out
   rw [← HX.out, List.length_map, hm] at h1
   omega
  have HFB : Hid (∀ x ∈ xs, x.f.b.length ≤ 65536) := hide (fun x hx => by
   have := ((fds_inv raw.length raw fs (Nat.le_refl _) (by omega) HFS.out).2 x.f (by rw [← HX.out]; exact List.mem_map_of_mem hx)).2
   omega)
  have HSL : Hid (St w NoB w5 (.cells w3.heap.size #[.slice Br nr dr, .slice none 0 0, .slice none 0 0, .slice none 0 0] 26 :: .row (.slice none 0 0) 32 5 0 [] :: .row (.slice Br nr dr) 5 1 nr (bvs root) :: .cells w.heap.size #[.slice none 0 0, .slice none 0 0, .slice none 0 0, .slice none 0 0] 26 :: .row (.slice B m d) 93 4 m (cellsF xs) :: (pc0.ch :: chunksF xs))) := hide (by
   have h1 := (HS5.out.row (Below.refl _ _) (World.ownsRow_nil _ _ 5 1)).row (Below.refl _ _) (World.ownsRow_nil _ _ 32 5)
   exact h1.perm (dec_perm _ _ _ _ _ _ _))
  generalize w3.heap.size = gt at HSL HS5 ⊢
  clear HS5 HS hm
  go_wp2_with fail
  go_loopw [7, 9, 22] (fun ev lv iv wr => ∃ (k last cnt : Nat) (X : Option Addr) (x : Nat) (zs : List Sg) (e z : PcV) (G : List Chunk), k ≤ m ∧ iv = .int .i64 (k : Int) ∧ lv = .int .i64 (last : Int) ∧ ev = .int .i64 0 ∧ cnt ≤ k ∧ Hid (zs.length = cnt) ∧ Hid (TkHd G zs e z) ∧ Hid (∀ x ∈ xs, FdL.chunk x ∈ G) ∧ Hid (tkF 0 ⟨root, [], [], []⟩ fs = tkF last ⟨root, zs.map Sg.p, e.b, z.b⟩ ((xs.drop k).map FdL.f)) ∧ Hid (St w NoB wr (.cells gt #[.slice Br nr dr, .slice X cnt x, e.v, z.v] 26 :: .row (.slice X cnt x) 32 5 cnt (sgCells zs) :: .row (.slice Br nr dr) 5 1 nr (bvs root) :: .cells w.heap.size #[.slice none 0 0, .slice none 0 0, .slice none 0 0, .slice none 0 0] 26 :: .row (.slice B m d) 93 4 m (cellsF xs) :: G))) (fun _ _ i _ => (m - intOf i).toNat)
  case atStart => exact ⟨0, 0, 0, none, 0, [], pc0, pc0, _, by omega, rfl, rfl, rfl, by omega, rfl, ⟨fun y hy => absurd hy List.not_mem_nil, List.mem_cons_self .., List.mem_cons_self ..⟩, (fun x hx => List.mem_cons_of_mem _ (by unfold chunksF; rw [List.mem_reverse]; exact List.mem_map_of_mem hx)), (by rw [← HX.out]; rfl), HSL⟩
  case round =>
   clear HSL
   obtain ⟨k, last, cnt, X, x, zs, ez, zz, G, hk, rfl, rfl, rfl, hcnt, HZ, HH, HG, HT, HS⟩ := hrel
   by_cases hlt : k < m
   ·have e0 : decide ((k : Int) < (m : Int)) = true := by simp; omega
    have e0' : decide (k < m) = true := by simp; omega
    have kn : (k : Int) < (m : Int) := by omega
    have kl : k < xs.length := by have := HM.out; omega
    have hlk : xs[k]? = some xs[k] := List.getElem?_eq_getElem kl
    obtain ⟨b, o, rfl, hb8, hc⟩ := fd_at (HS.out.rd 4 rfl) hlk
    obtain ⟨k0, k1, k2, k3⟩ := hc _ (Below.refl _ _)
    have HDK := hide (show (xs.drop k).map FdL.f = xs[k].f :: (xs.drop (k + 1)).map FdL.f by rw [List.drop_eq_getElem_cons kl]; rfl)
    have HYB := hide (HFB.out _ (List.getElem_mem kl))
    have HYG := hide (HG.out _ (List.getElem_mem kl))
    generalize xs[k] = y at k0 k1 k2 k3 HDK HYB HYG
    rw [HDK.out] at HT
    clear hc hlk kl
    go_upto_region 7 with (refine wl_storeC rfl rfl (HS.out.alloc _ _) 0 rfl (vs := [.int .i64 (y.f.num : Int), .bool y.f.whole, .int .u64 (y.f.n : Int), .slice y.A y.f.b.length y.c]) szField (Nat.le_refl _) rfl rfl oneF ?_; intro w5 hS5; have HS5 : Hid (St w NoB w5 (.cells gt #[.slice Br nr dr, .slice X cnt x, ez.v, zz.v] 26 :: .row (.slice X cnt x) 32 5 cnt (sgCells zs) :: (.cells wr.heap.size #[.int .i64 (y.f.num : Int), .bool y.f.whole, .int .u64 (y.f.n : Int), .slice y.A y.f.b.length y.c] 93 :: .row (.slice Br nr dr) 5 1 nr (bvs root) :: .cells w.heap.size #[.slice none 0 0, .slice none 0 0, .slice none 0 0, .slice none 0 0] 26 :: .row (.slice (some ⟨b, o, none⟩) m d) 93 4 m (cellsF xs) :: G))) := hide (hS5.perm ((List.Perm.swap _ _ _).trans (List.Perm.cons _ (List.Perm.swap _ _ _)))); clear hS5)
    have q0 : _ = some (Value.int .i64 (y.f.num : Int)) := HS5.out.cell 2 rfl 0
    have q1 : _ = some (Value.bool y.f.whole) := HS5.out.cell 2 rfl 1
    have q2 : _ = some (Value.int .u64 (y.f.n : Int)) := HS5.out.cell 2 rfl 2
    have q3 : _ = some (Value.slice y.A y.f.b.length y.c) := HS5.out.cell 2 rfl 3
    clear k0 k1 k2 k3 HS
    by_cases hc : tkC last y.f = 0
    ·have HW := hide (takes_good gt y last (.slice Br nr dr) X cnt x zs ez zz root ((xs.drop (k + 1)).map FdL.f) hc (by omega) HYB.out G (fun c h => by (iterate 4 apply List.mem_cons_of_mem); exact h) HYG.out HZ.out HH.out HS5.out)
     clear hc
     go_wp2_with (go_at_call 65; (with_reducible refine HW.out.mono ?_); rintro e9 w6 ⟨X2, n2, x2, zs2, e2, z2, G2, rfl, hS6, hz2, hn2, hH2, hT2⟩; have HS6 := hide hS6; have HZ2 := hide hz2; have HH2 := hide hH2; have HT2 := hide (HT.out.trans hT2); clear hS6 hz2 hH2 hT2 q0 q1 q2 q3; have q0 : _ = some (Value.int .i64 (y.f.num : Int)) := HS6.out.cell 2 rfl 0)
     go_roundw
     case rel => exact ⟨k + 1, y.f.num, n2, X2, x2, zs2, e2, z2, G ++ G2, by omega, by go_num, rfl, rfl, by omega, HZ2, HH2, hide (fun x hx => List.mem_append_left _ (HG.out x hx)), HT2, hide (St.cut [_, _] _ _ HS6.out)⟩
     case measure => (simp [intOf]) <;> omega
    ·obtain ⟨kk, hkk⟩ : ∃ kk, tkC last y.f = kk := ⟨_, rfl⟩
     have hk0 : kk ≠ 0 := by rw [← hkk]; exact hc
     have HW := hide (takes_bad gt y last kk (.slice Br nr dr) X cnt x zs ez.v zz.v hkk hk0 (by omega) HYB.out (by (iterate 4 apply List.mem_cons_of_mem); exact HYG.out) HS5.out)
     have HD := hide ((dec_ok HFS.out (HT.out.trans (tkF_bad hkk hk0 _ _))).trans (if_pos hk0))
     have d0 : ((kk : Int) != 0) = true := by simp; omega
     have d0' : decide ((kk : Int) = 0) = false := by simp; omega
     clear hc hkk
     have M0 := True.intro
     go_wp2_with (first
      | (clear M1; refine wl_storeC rfl rfl HS6.out 2 rfl (vs := [.slice none 0 0, .slice none 0 0, .slice none 0 0, .slice none 0 0]) szToken (Nat.le_refl _) rfl rfl one4 ?_; intro w7 hS7; have HS7 := hide hS7; clear hS7)
      | (clear M0; go_at_call 65; (with_reducible refine HW.out.mono ?_); rintro e9 w6 ⟨rfl, hS6⟩; have HS6 := hide hS6; clear hS6 q0 q1 q2 q3; have M1 := True.intro))
     refine bodyPost_ret (results_cell_tmp_row rfl _ _ w.heap.size _ _ _ _ rfl (HS7.out.heap 2 rfl) Tryz.underlying26 rfl (by kernel_rfl)) rfl ?_
     rw [HD.out]
     exact tkQ_no ⟨rfl, HS7.out.below⟩
   ·obtain rfl : k = m := by omega
    have e0 : decide ((k : Int) < (k : Int)) = false := by simp
    have e0' : decide (k < k) = false := by simp
    obtain ⟨E1, f1, y1⟩ := ez
    obtain ⟨E2, f2, y2⟩ := zz
    have ht : tkF 0 ⟨root, [], [], []⟩ fs = ⟨0, ⟨root, zs.map Sg.p, y1, y2⟩⟩ := by rw [HT.out, List.drop_of_length_le (by rw [HM.out]; exact Nat.le_refl _)]; rfl
    have HD := hide (dec_ok HFS.out ht)
    clear ht HT
    have t0 : _ = some (Value.slice Br nr dr) := HS.out.cell 0 rfl 0
    have t1 : _ = some (Value.slice X cnt x) := HS.out.cell 0 rfl 1
    have t2 : _ = some (Value.slice E1 y1.length f1) := HS.out.cell 0 rfl 2
    have t3 : _ = some (Value.slice E2 y2.length f2) := HS.out.cell 0 rfl 3
    by_cases h0 : cnt = 0 ∨ 8 < cnt
    ·have HDD := hide (HD.out.trans ((if_neg (by simp)).trans (if_pos (show (zs.map Sg.p).length = 0 ∨ 8 < (zs.map Sg.p).length by rw [List.length_map, HZ.out]; exact h0))))
     rcases h0 with rfl | h0
     ·go_wp2_with (refine wl_storeC rfl rfl HS.out 3 rfl (vs := [.slice none 0 0, .slice none 0 0, .slice none 0 0, .slice none 0 0]) szToken (Nat.le_refl _) rfl rfl one4 ?_; intro w7 hS7; have HS7 := hide hS7; clear hS7)
      refine bodyPost_ret (results_cell_tmp_row rfl _ _ w.heap.size _ _ _ _ rfl (HS7.out.heap 3 rfl) Tryz.underlying26 rfl (by kernel_rfl)) rfl ?_
      rw [HDD.out]
      exact tkQ_no ⟨rfl, HS7.out.below⟩
     ·have d1 : ((cnt : Int) == 0) = false := by simp; omega
      have d1' : decide ((cnt : Int) = 0) = false := by simp; omega
      have d2 : decide ((8 : Int) < (cnt : Int)) = true := by simp; omega
      have d2' : decide (8 < cnt) = true := by simp; omega
      go_wp2_with (refine wl_storeC rfl rfl HS.out 3 rfl (vs := [.slice none 0 0, .slice none 0 0, .slice none 0 0, .slice none 0 0]) szToken (Nat.le_refl _) rfl rfl one4 ?_; intro w7 hS7; have HS7 := hide hS7; clear hS7)
      refine bodyPost_ret (results_cell_tmp_row rfl _ _ w.heap.size _ _ _ _ rfl (HS7.out.heap 3 rfl) Tryz.underlying26 rfl (by kernel_rfl)) rfl ?_
      rw [HDD.out]
      exact tkQ_no ⟨rfl, HS7.out.below⟩
    ·have HDD := hide (HD.out.trans ((if_neg (by simp)).trans (if_neg (show ¬ ((zs.map Sg.p).length = 0 ∨ 8 < (zs.map Sg.p).length) by rw [List.length_map, HZ.out]; exact h0))))
     have d1 : ((cnt : Int) == 0) = false := by simp; omega
     have d1' : decide ((cnt : Int) = 0) = false := by simp; omega
     have d2 : decide ((8 : Int) < (cnt : Int)) = false := by simp; omega
     have d2' : decide (8 < cnt) = false := by simp; omega
     go_wp2_with (refine wl_storeC rfl rfl HS.out 3 rfl (vs := [.slice Br nr dr, .slice X cnt x, .slice E1 y1.length f1, .slice E2 y2.length f2]) szToken (Nat.le_refl _) rfl rfl one4 ?_; intro w7 hS7; have HS7 := hide hS7; clear hS7)
     refine bodyPost_ret (results_cell_tmp_row rfl _ _ w.heap.size _ _ _ _ rfl (HS7.out.heap 3 rfl) Tryz.underlying26 rfl (by kernel_rfl)) rfl ?_
     rw [HDD.out]
     refine ⟨⟨⟨Br, dr, root⟩, X, x, zs, ⟨E1, f1, y1⟩, ⟨E2, f2, y2⟩⟩, _, ?_, rfl, ⟨pc_ch HLR.out 2 rfl, ?_, fun v hv c hc => ?_, ?_, ?_⟩, HS7.out⟩
     ·rw [Tk.val_eq]
      simp only [HLR.out, HZ.out]
      rfl
     ·show Chunk.row (.slice X zs.length x) _ 5 zs.length _ ∈ _
      rw [HZ.out]
      exact List.mem_of_getElem? (i := 1) rfl
     ·have hc := HH.out.l v hv c hc
      show c ∈ _ :: _ :: _ :: _ :: _ :: G
      (iterate 5 apply List.mem_cons_of_mem)
      exact hc
     ·show _ ∈ _ :: _ :: _ :: _ :: _ :: G
      (iterate 5 apply List.mem_cons_of_mem)
      exact HH.out.e
     ·show _ ∈ _ :: _ :: _ :: _ :: _ :: G
      (iterate 5 apply List.mem_cons_of_mem)
      exact HH.out.z
end Go.Proofs.YtnohmgpmmhlloaaGreatDoor.S6

namespace Go.Proofs.YtnohmgpmmhlloaaGreatDoor.S6
set_option maxRecDepth 100000
open Go.RowKit

def RvPage (w : World) (l : List UInt8) : VR → Ending → World → Prop
 | .ok v rest, e, w' => w' = w ∧ W64 v ∧ ∃ k : Nat, k ≤ l.length ∧ rest = l.drop k ∧ e = .returned (.tuple #[.int .u64 (v : Int), .int .i64 (k : Int), .int .i64 0])
 | .bad j, e, w' => w' = w ∧ e = .returned (.tuple #[.int .u64 0, .int .i64 0, .int .i64 (j : Int)])

theorem or_step' (k acc x : Nat) (hk : k ≤ 9) (hx : x < 256) (h9 : k = 9 → x ≤ 1) (ha : acc < 2 ^ (7 * k)) :
  bits .or .u64 (acc : Int) (IntKind.u64.wrap (IntKind.u64.wrap (bits .and .u8 (x : Int) 127) * 2 ^ (7 * k))) = ((acc + x % 128 * 2 ^ (7 * k) : Nat) : Int) ∧ W64 (acc + x % 128 * 2 ^ (7 * k)) ∧ acc + x % 128 * 2 ^ (7 * k) < 2 ^ (7 * (k + 1)) := by
 have e1 : bits .and .u8 (x : Int) 127 = ((x % 128 : Nat) : Int) := by
  have := u8_and_nat x 127 hx (by omega)
  rw [nat_mask7] at this
  exact this
 have hp : 0 < 2 ^ (7 * k) := Nat.two_pow_pos _
 have hm : x % 128 * 2 ^ (7 * k) ≤ 127 * 2 ^ (7 * k) := Nat.mul_le_mul_right _ (by omega)
 have hlt : x % 128 * 2 ^ (7 * k) + 2 ^ (7 * k) ≤ 18446744073709551616 := by
  by_cases h : k = 9
  ·have h1 := h9 h
   have h2 : 2 ^ (7 * k) = 9223372036854775808 := by rw [h]
   rw [h2]
   omega
  ·have h2 : 2 ^ (7 * k) ≤ 2 ^ 56 := Nat.pow_le_pow_right (by omega) (by omega)
   have h3 : (2 : Nat) ^ 56 = 72057594037927936 := rfl
   rw [h3] at h2
   omega
 have e2 : (IntKind.u64.wrap ((x % 128 : Nat) : Int)) = ((x % 128 : Nat) : Int) := by rw [IntKind.wrap_u64]; omega
 have e3 : IntKind.u64.wrap (((x % 128 : Nat) : Int) * 2 ^ (7 * k)) = ((x % 128 * 2 ^ (7 * k) : Nat) : Int) := by
  rw [show (((x % 128 : Nat) : Int) * 2 ^ (7 * k)) = ((x % 128 * 2 ^ (7 * k) : Nat) : Int) from by simp, IntKind.wrap_u64]
  omega
 rw [e1, e2, e3, u64_or_nat _ _ (by omega) (by omega), Nat.or_comm, nat_join (7 * k) _ _ (Nat.mul_mod_left _ _) ha]
 refine ⟨by rw [Nat.add_comm], by unfold W64; omega, ?_⟩
 rw [show 7 * (k + 1) = 7 * k + 7 from by omega, Nat.pow_add]
 omega
theorem pvarint_walk (w : World) (A : Option Addr) (c : Nat) (l : List UInt8) (hl : l.length ≤ 1000000) (hrd : Rd w (.slice A l.length c) 1 l.length (bvs l)) :
  Calls Tryz.prog 153 #[.slice A l.length c] w (RvPage w l (rv l)) := by
 go_enter Tryz.func153, Tryz.ntmps153
 go_wp2_with fail
 go_loop [5, 10] (fun n i => ∃ k acc : Nat, i = .int .i64 k ∧ n = .int .u64 acc ∧ k ≤ 9 ∧ k ≤ l.length ∧ acc < 2 ^ (7 * k) ∧ rvF (l.drop k) k acc = rv l) (fun _ i => 10 - (intOf i).toNat)
 case atStart => exact ⟨0, 0, rfl, rfl, by omega, by omega, by simp, by rw [rv_eq]; rfl⟩
 case round =>
  obtain ⟨k, acc, rfl, rfl, hk, hkl, hacc, hrv⟩ := hrel
  have HA := hide hacc
  have HV := hide hrv
  clear hacc hrv
  by_cases hlt : k < l.length
  ·rcases hrd.cases with ⟨_, h0, _⟩ | ⟨b, o, sp, c', hA, hb, _, _, _, hsp, hcl⟩
   ·omega
   injection hA with hA _ hc'
   subst hA hc'
   obtain rfl : sp = none := hsp (by omega)
   have hcx : w.cell? ⟨b, o + k, none⟩ = some (.int .u8 (l[k].toNat : Int)) := hcl k _ (by simp [bvs, bv, List.getElem?_eq_getElem hlt])
   have hxl : l[k].toNat < 256 := UInt8.toNat_lt _
   obtain ⟨x, hx⟩ : ∃ x, x = l[k].toNat := ⟨_, rfl⟩
   rw [← hx] at hcx hxl
   have HX := hide hx
   clear hx hcl hsp
   have hge : decide ((k : Int) < (l.length : Int)) = true := by simp; omega
   go_upto_region 5 with fail
   go_cut [28] (fun s wx => s = .bool (badB k x) ∧ wx = w)
   case first =>
    have e9 : ((k : Int) == 9) = decide (k = 9) := by rw [Bool.eq_iff_iff]; simp; omega
    have e1 : decide (1 < (x : Int)) = decide (1 < x) := by rw [Bool.eq_iff_iff]; simp; omega
    have e0 : decide (0 < (k : Int)) = decide (0 < k) := by rw [Bool.eq_iff_iff]; simp
    have ez : ((x : Int) == 0) = decide (x = 0) := by rw [Bool.eq_iff_iff]; simp
    have ez' : (x == 0) = decide (x = 0) := by rw [Bool.eq_iff_iff]; simp
    have ew : badB k x = ((decide (k = 9) && decide (1 < x)) || (decide (0 < k) && decide (x = 0))) := by unfold badB; rfl
    cases h9 : decide (k = 9) <;> cases h1 : decide (1 < x) <;> cases h0 : decide (0 < k) <;> cases hx0 : decide (x = 0)
    all_goals (rw [h9] at e9; rw [h1] at e1; rw [h0] at e0; rw [hx0] at ez ez'; rw [h9, h1, h0, hx0] at ew; have EW := hide ew; clear ew h9)
    all_goals go_wp2_with fail
    all_goals (go_meet; refine ⟨?_, rfl⟩; rw [EW.out]; rfl)
   case rest =>
    obtain ⟨rfl, rfl⟩ := hcut
    cases hbad : badB k x
    ·obtain ⟨o1, o2, o3⟩ := or_step' k acc x hk hxl (bad_nine k x hk hbad) HA.out
     have O2 := hide o2
     have O3 := hide o3
     clear o2 o3
     by_cases h128 : x < 128
     ·have HR := hide (rv_ok l k acc x hlt HX.out hbad h128 HV.out)
      have hv : (acc : Int) + (x : Int) % 128 * 2 ^ (7 * k) = ((acc + x * 2 ^ (7 * k) : Nat) : Int) := by
       have : (x : Int) % 128 = x := by omega
       rw [this]
       simp
      have O := O2.out
      rw [show x % 128 = x from by omega] at O
      have HV' := hide hv
      have HO := hide O
      clear hv O
      go_wp2_with fail
      go_ret3
      rw [HR.out]
      exact ⟨rfl, HO.out, k + 1, by omega, rfl, congrArg (fun z => Ending.returned (Value.tuple #[Value.int .u64 z, Value.int .i64 ((k + 1 : Nat) : Int), Value.int .i64 0])) HV'.out⟩
     ·have HR := hide (rv_on l k acc x hlt HX.out hbad h128 HV.out)
      have h9 := bad_nine k x hk hbad
      have hv : (acc : Int) + (x : Int) % 128 * 2 ^ (7 * k) = ((acc + (x - 128) * 2 ^ (7 * k) : Nat) : Int) := by
       have : (x : Int) % 128 = ((x - 128 : Nat) : Int) := by omega
       rw [this]
       simp
      have O := O3.out
      rw [show x % 128 = x - 128 from by omega] at O
      have HV' := hide hv
      have HO := hide O
      have H9 := hide h9
      clear hv O h9
      go_wp2_with fail
      go_round
      case rel => exact ⟨k + 1, acc + (x - 128) * 2 ^ (7 * k), by go_num, congrArg (Value.int .u64) HV'.out, by have := H9.out; omega, by omega, HO.out, HR.out⟩
      case measure => simp [intOf]; omega
    ·have HR := hide (rv_bad l k acc x hlt HX.out hbad HV.out)
     go_wp2_with fail
     go_ret3
     rw [HR.out]
     exact ⟨rfl, rfl⟩
  ·have hge : decide ((k : Int) < (l.length : Int)) = false := by simp; omega
   have HR := hide (rv_end l k acc hlt HV.out)
   go_wp2_with fail
   go_ret3
   rw [HR.out]
   exact ⟨rfl, rfl⟩
end Go.Proofs.YtnohmgpmmhlloaaGreatDoor.S6

namespace Go.Proofs.YtnohmgpmmhlloaaGreatDoor.S6
set_option maxRecDepth 100000
open Go.RowKit

theorem tyR : RowTy Tryz.prog 100 102 4 48 := rowTy_of (z := .agg #[.int .i64 0, .bool false, .int .u64 0, .slice none 0 0]) (by kernel_rfl) (by kernel_rfl) (by kernel_rfl) (by decide)

@[irreducible] def noTag (tag : Nat) : Bool := (decide (tag % 8 ≠ 0) && decide (tag % 8 ≠ 2)) || decide (tag / 8 < 1) || decide (100 < tag / 8)
theorem noTag_yes (tag : Nat) (h : noTag tag = true) : ¬ ((tag % 8 = 0 ∨ tag % 8 = 2) ∧ mayB (numF tag) = true) := by
 unfold noTag at h
 unfold mayB numF
 simp at h ⊢
 omega
theorem noTag_no (tag : Nat) (h : noTag tag = false) : (tag % 8 = 0 ∨ tag % 8 = 2) ∧ mayB (numF tag) = true ∧ numF tag = tag / 8 := by
 unfold noTag at h
 unfold mayB numF
 simp at h ⊢
 omega

theorem page_cut {A' : Option Addr} {c' : Nat} {r rest : List UInt8} {k : Nat} (hk : k ≤ r.length) (h : rest = r.drop k) (kd : IntKind) :
  ∃ A1 a1, (∀ W, (Instr.sliceAt 22 (.slice A' r.length c') (some (.int kd (k : Int))) none none).run Tryz.prog W = .ok (.slice A1 rest.length a1) W) ∧ CutR A' c' r A1 a1 rest := by
 refine ⟨cutA A' c' k, c' - k, fun W => ?_, ?_⟩
 ·rw [h, List.length_drop]
  exact run_cut Tryz.underlying22 cellU8 infoU8 kd A' r.length c' k hk W
 ·rw [h]
  exact cutR A' c' r k hk
theorem fd_bads2 (l : List UInt8) (tag k : Nat) (rest : List UInt8) (h : rv l = .ok tag rest) (h0 : tag % 8 = 0 ∨ tag % 8 = 2) (hm : mayB (numF tag) = true) (h2 : rv rest = .bad k) : fd l = .bad k := by
 rcases h0 with h0 | h0
 ·exact fd_numBad l tag k rest h h0 hm h2
 ·exact fd_rawBad l tag k rest h h0 hm (rw_bad rest k h2)

section
variable {P : Program} {w0 w : World} {M : Nat → Prop} {H : List Chunk}
theorem wl_appendB {ops : Array Oper} {rest : List Oper} {o : Oper} {a : Act} {Q : Exit → Act → World → Prop} (hgd : o.guard = none) {s x : Operand} {t e e' : TypeId} {size bytes b : Nat}
  (ho : o.op = .call { callee := .builtin .append, args := #[s, x], argTypes := #[t, t] }) (T : RowTy P t e size bytes)
  (hS : St w0 M w H) (hb : w.heap.size = b) (k : Nat) {v : Value} {n : Nat} {xs : List Value} (hk : H[k]? = some (.row v e size n xs)) (hs : a.eval s = v)
  {m : Nat} {us : List Value} (hx : a.eval x = .slice (some ⟨b, 0, none⟩) m m) (hm : us.length = m * size) (h1 : ∀ u ∈ us, u.oneCell' = true) (hlen : n + m ≤ 4294967296) (hby : bytes ≤ 32768)
  (h : ∀ A' c' w', St w0 M w' (H.set k (.row (.slice A' (n + m) c') e size (n + m) (xs ++ us))) → wpList P ops Q rest (a.put o.dst (.slice A' (n + m) c')) w') : wpList P ops Q (o :: rest) a (w.alloc (.cells us.toArray e')) := by
 subst hb
 exact wl_appendN hgd ho T hS k hk hs hx hm h1 hlen hby h
end
def PageRel (w : World) (A : Option Addr) (c : Nat) (l : List UInt8) (left : Nat) (b v : Value) (wr : World) : Prop :=
 ∃ (xs : List FdL) (r : List UInt8) (B : Option Addr) (d : Nat) (A' : Option Addr) (c' : Nat), v = .slice B xs.length d ∧ b = .slice A' r.length c' ∧ left = r.length ∧ xs.length + r.length ≤ l.length ∧
  St w NoB wr (.row (.slice B xs.length d) 102 4 xs.length (cellsF xs) :: chunksF xs) ∧ CutR A c l A' c' r ∧ fds l = (fds r).pre (xs.map FdL.f)

theorem pfields_walk (w : World) (A : Option Addr) (c : Nat) (l : List UInt8) (hl : l.length ≤ 65536) (hr : Rd w (.slice A l.length c) 1 l.length (bvs l)) :
  Calls Tryz.prog 115 #[.slice A l.length c] w (ResF 102 w (fds l)) := by
 have hle : decide (65536 < (l.length : Int)) = false := by simp; omega
 have HR := hide hr
 have HS := hide ((St.init w NoB).row (Below.refl _ _) (World.ownsRow_nil w w.heap.size 102 4))
 clear hr
 go_enter Tryz.func115, Tryz.ntmps115
 go_wp2_with fail
 go_loopg [0, 4] (l.length) (fun left b v wr => PageRel w A c l left b v wr)
 case atStart => exact ⟨[], l, none, 0, A, c, rfl, rfl, rfl, by simp, HS.out, fun _ h => h, (FsR.pre_nil _).symm⟩
 case round =>
  obtain ⟨xs, r, B, d, A', c', rfl, rfl, rfl, hxl, hS, hcr, hfd⟩ := hrel
  by_cases hr0 : r = []
  ·subst hr0
   rw [fds_nil] at hfd
   have hd0 : decide ((0 : Int) < (([] : List UInt8).length : Int)) = false := rfl
   have HF := hide hfd
   have HX := hide hxl
   clear hfd hxl
   go_wp2_with fail
   go_ret2
   rw [HF.out]
   exact ⟨xs, B, d, rfl, by simp [FsR.pre], hS⟩
  ·have hpos : 0 < r.length := List.length_pos_iff.2 hr0
   have hd0 : decide ((0 : Int) < (r.length : Int)) = true := by simp; omega
   have V := pvarint_walk wr A' c' r (by omega) (hcr wr (HR.out.st hS))
   cases hv : rv r with
   | bad k =>
    have HF := hide (show fds l = .bad k by rw [hfd, fds_bad r k hr0 (fd_bad r k hv)]; rfl)
    have hk := rv_bads r k hv
    have hk2 : ((k : Int) != 0) = true := by rcases hk with rfl | rfl <;> rfl
    rw [hv] at V
    have VV := hide V
    clear V hfd hv hk hxl
    go_wp2_with (go_at_call 153; refine VV.out.mono ?_; rintro e w2 ⟨rfl, rfl⟩)
    go_ret2
    rw [HF.out]
    exact ⟨rfl, hS.below⟩
   | ok tag rest =>
    have hlr := rv_len r tag rest hv
    rw [hv] at V
    have VV := hide V
    have HX := hide hxl
    have HFD := hide hfd
    have HV := hide hv
    clear V hfd hv hxl
    go_upto_region 10 with (go_at_call 153; refine VV.out.mono ?_; rintro e w2 ⟨rfl, hw, kk, hkk, hrest, rfl⟩; obtain ⟨A1, a1, hct, hcr1⟩ := page_cut (A' := A') (c' := c') hkk hrest .i64; clear hrest)
    clear hct hkk VV
    obtain ⟨k8, hk8⟩ : ∃ k8, k8 = tag % 8 := ⟨_, rfl⟩
    have ha := and7 tag hw
    rw [← hk8] at ha
    have hcr2 := hcr.trans hcr1
    clear hcr hcr1
    go_cut [8, 46] (fun s t wx => s = .int .u64 (k8 : Int) ∧ t = .bool (noTag tag) ∧ wx = w2)
    case first =>
     have e0 : ((k8 : Int) == 0) = decide (k8 = 0) := by rw [Bool.eq_iff_iff]; simp
     have e0' : ((k8 : Int) != 0) = !decide (k8 = 0) := by rw [bne, e0]
     have e2 : ((k8 : Int) == 2) = decide (k8 = 2) := by rw [Bool.eq_iff_iff]; simp; omega
     have e2' : ((k8 : Int) != 2) = !decide (k8 = 2) := by rw [bne, e2]
     have l1 : decide ((tag : Int) / 8 < 1) = decide (tag / 8 < 1) := by rw [Bool.eq_iff_iff]; simp; omega
     have l2 : decide (100 < (tag : Int) / 8) = decide (100 < tag / 8) := by rw [Bool.eq_iff_iff]; simp; omega
     have ew : noTag tag = ((!decide (k8 = 0) && !decide (k8 = 2)) || decide (tag / 8 < 1) || decide (100 < tag / 8)) := by unfold noTag; rw [hk8, decide_not, decide_not]
     have HK := hide hk8
     have HW := hide hw
     clear hk8 hw
     cases h0 : decide (k8 = 0) <;> cases h2 : decide (k8 = 2) <;> cases h1 : decide (tag / 8 < 1) <;> cases h100 : decide (100 < tag / 8)
     all_goals (rw [h0] at e0 e0'; rw [h2] at e2 e2'; rw [h1] at l1; rw [h100] at l2; rw [h0, h2, h1, h100] at ew; have EW := hide ew; clear ew h0 h2 h1 h100)
     all_goals go_wp2_with fail
     all_goals (go_meet; refine ⟨congrArg (Value.int .u64) ha, ?_, rfl⟩; rw [EW.out]; rfl)
    case rest =>
     obtain ⟨rfl, rfl, rfl⟩ := hcut
     cases hno : noTag tag
     ·obtain ⟨n1, n2, n3⟩ := noTag_no tag hno
      have V2 := fun wq (hq : Below w.heap.size w wq) => pvarint_walk wq A1 a1 rest (by have := HX.out; omega) (hcr2 wq (HR.out.below hq))
      have hnum : ((numF tag : Nat) : Int) = (tag : Int) / 8 := by rw [n3]; omega
      have hlo : 0 ≤ (tag : Int) / 8 := by omega
      have hhi : (tag : Int) / 8 ≤ 100 := by have := mayB_of _ n2; omega
      have HN := hide hnum
      have HS2 := hide hS
      have HK := hide hk8
      clear hnum n3 ha hS hno hk8
      cases h2 : decide (k8 = 2)
      ·have e2 : ((k8 : Int) == 2) = false := by rw [← h2, Bool.eq_iff_iff]; simp; omega
       have hk0 : tag % 8 = 0 := by have := HK.out; simp at h2; omega
       clear h2
       cases hv2 : rv rest with
       | bad j =>
        have HF := hide (show fds l = .bad j by rw [HFD.out, fds_bad r j hr0 (fd_bads2 r tag j rest HV.out n1 n2 hv2)]; rfl)
        have hj := rv_bads rest j hv2
        have hj2 : ((j : Int) != 0) = true := by rcases hj with rfl | rfl <;> rfl
        rw [hv2] at V2
        have VV2 := hide V2
        clear V2 hv2 hj n1 n2 hk0
        go_wp2_with (go_at_call 153; refine (VV2.out _ (HS2.out.skip _).below).mono ?_; rintro e w3 ⟨rfl, rfl⟩)
        go_ret2
        rw [HF.out]
        exact ⟨rfl, (HS2.out.skip _).below⟩
       | ok n r2 =>
        have HF := hide (show fds l = (fds r2).pre ((xs.map FdL.f) ++ [⟨numF tag, false, n, []⟩]) by rw [HFD.out, fds_ok r _ r2 hr0 (fd_num r tag n rest r2 HV.out hk0 n2 hv2), FsR.pre_pre])
        have hlr2 := rv_len rest n r2 hv2
        rw [hv2] at V2
        have VV2 := hide V2
        clear V2 hv2 n1 n2 hk0
        go_wp2_with (first
         | (go_at_call 153; refine (VV2.out _ (HS2.out.skip _).below).mono ?_; rintro e w3 ⟨he3, hw3, kk2, hkk2, hrest2, rfl⟩; subst he3; obtain ⟨A2, a2, hct, hcr3⟩ := page_cut (A' := A1) (c' := a1) hkk2 hrest2 .i64; clear hrest2)
         | (at_builtin; refine wl_appendB rfl rfl tyR (HS2.out.skip _) (size_alloc1 _ _) 0 rfl rfl (us := [_, _, _, _]) rfl rfl ?_ ?_ (by decide) ?_; (intro u hu; simp only [List.mem_cons, List.not_mem_nil, or_false] at hu; rcases hu with rfl | rfl | rfl | rfl <;> rfl); (have := HX.out; omega); intro B3 d3 w3 hS3))
        go_roundg (r2.length)
        case rel =>
         refine ⟨xs ++ [⟨⟨numF tag, false, n, []⟩, none, 0⟩], r2, B3, d3, A2, a2, by simp, rfl, rfl, ?_, ?_, hcr2.trans hcr3, ?_⟩
         ·have := HX.out
          simp only [List.length_append, List.length_singleton]
          omega
         ·rw [cellsF_snoc, chunksF_snoc, List.length_append, List.length_singleton]
          have hS4 := (hS3.row (Below.refl _ _) (World.ownsRow_nil _ _ 5 1)).swap
          unfold FdL.cells FdL.chunk
          rw [HN.out]
          exact hS4
         ·rw [HF.out, List.map_append]
          rfl
        case measure => omega
      ·have e2 : ((k8 : Int) == 2) = true := by rw [← h2, Bool.eq_iff_iff]; simp; omega
       have hk0 : tag % 8 = 2 := by have := HK.out; simp at h2; omega
       clear h2
       cases hv2 : rv rest with
       | bad j =>
        have HF := hide (show fds l = .bad j by rw [HFD.out, fds_bad r j hr0 (fd_bads2 r tag j rest HV.out n1 n2 hv2)]; rfl)
        have hj := rv_bads rest j hv2
        have hj2 : ((j : Int) != 0) = true := by rcases hj with rfl | rfl <;> rfl
        rw [hv2] at V2
        have VV2 := hide V2
        clear V2 hv2 hj n1 n2 hk0
        go_wp2_with (go_at_call 153; refine (VV2.out _ (HS2.out.skip _).below).mono ?_; rintro e w3 ⟨rfl, rfl⟩)
        go_ret2
        rw [HF.out]
        exact ⟨rfl, (HS2.out.skip _).below⟩
       | ok n r2 =>
        have hlr2 := rv_len rest n r2 hv2
        by_cases hn : n ≤ r2.length
        ·have HF := hide (show fds l = (fds (r2.drop n)).pre ((xs.map FdL.f) ++ [⟨numF tag, true, 0, r2.take n⟩]) by rw [HFD.out, fds_ok r _ _ hr0 (fd_raw r tag rest _ _ HV.out hk0 n2 (rw_ok rest n r2 hv2 hn)), FsR.pre_pre])
         rw [hv2] at V2
         have VV2 := hide V2
         have hn' : decide ((r2.length : Int) < (n : Int)) = false := by simp; omega
         have hlr : n ≤ 4294967296 := by have := HX.out; omega
         have hl64 : r2.length ≤ 1000000 := by have := HX.out; omega
         clear V2 hv2 n1 n2 hk0
         go_wp2_with (first
          | (go_at_call 153; refine (VV2.out _ (HS2.out.skip _).below).mono ?_; rintro e w3 ⟨he3, hw3, kk2, hkk2, hrest2, rfl⟩; subst he3; obtain ⟨A2, a2, hct, hcr3⟩ := page_cut (A' := A1) (c' := a1) hkk2 hrest2 .i64; clear hrest2; have hq := (fun W (hW : Below w.heap.size w W) => (hcr2.trans hcr3) W (HR.out.below hW)); have hcap : r2.length ≤ a2 := (by obtain ⟨_, _, e, _, h, _⟩ := hq _ HS2.out.below; injection e with _ _ e; omega); obtain ⟨A3, a3, hct2, hcr4⟩ := page_cut (A' := A2) (c' := a2) hn rfl .u64)
          | (at_builtin; refine wl_append0 rfl rfl tyB (HS2.out.alloc _ _) rfl rfl (rd_take (hq _ (HS2.out.alloc _ _).below) n hn) (one_bvs _) hlr (by decide) ?_; intro B2 d2 w4 hS4; have f3 := hS4.free 1 rfl 3; have q0 : w4.cell? ⟨wc.heap.size, 0, none⟩ = some (.int .i64 ((tag : Int) / 8)) := hS4.cell 1 rfl 0; have q1 : w4.cell? ⟨wc.heap.size, 1, none⟩ = some (.bool true) := hS4.cell 1 rfl 1; have q2 : w4.cell? ⟨wc.heap.size, 2, none⟩ = some (.int .u64 0) := hS4.cell 1 rfl 2; have q3 : w4.cell? ⟨wc.heap.size, 3, none⟩ = some (.slice none 0 0) := hS4.cell 1 rfl 3)
          | (at_builtin; refine wl_appendB rfl rfl tyR (hS4.setCell 1 rfl 3 (.slice B2 n d2)) (b := w4.heap.size) (by simp) 2 rfl rfl (us := [_, _, _, _]) rfl rfl ?_ ?_ (by decide) ?_; (intro u hu; simp only [List.mem_cons, List.not_mem_nil, or_false] at hu; rcases hu with rfl | rfl | rfl | rfl <;> rfl); (have := HX.out; omega); intro B3 d3 w5 hS5))
         go_roundg ((r2.drop n).length)
         case rel =>
          have hlt : (r2.take n).length = n := by rw [List.length_take]; omega
          refine ⟨xs ++ [⟨⟨numF tag, true, 0, r2.take n⟩, B2, d2⟩], r2.drop n, B3, d3, A3, a3, by simp, by rw [List.length_drop], rfl, ?_, ?_, (hcr2.trans hcr3).trans hcr4, ?_⟩
          ·have := HX.out
           simp only [List.length_append, List.length_singleton, List.length_drop]
           omega
          ·rw [cellsF_snoc, chunksF_snoc, List.length_append, List.length_singleton]
           have hS6 := hS5.rot3.swap12.mid2
           unfold FdL.cells FdL.chunk
           rw [HN.out, hlt]
           exact hS6
          ·rw [HF.out, List.map_append]
           rfl
         case measure => rw [List.length_drop]; omega
        ·have HF := hide (show fds l = .bad 2 by rw [HFD.out, fds_bad r 2 hr0 (fd_rawBad r tag 2 rest HV.out hk0 n2 (rw_short rest n r2 hv2 hn))]; rfl)
         rw [hv2] at V2
         have VV2 := hide V2
         have hn' : decide ((r2.length : Int) < (n : Int)) = true := by simp; omega
         have hl64 : r2.length ≤ 1000000 := by have := HX.out; omega
         clear V2 hv2 n1 n2 hk0
         go_wp2_with (go_at_call 153; refine (VV2.out _ (HS2.out.skip _).below).mono ?_; rintro e w3 ⟨he3, hw3, kk2, hkk2, hrest2, rfl⟩; subst he3; obtain ⟨A2, a2, hct, hcr3⟩ := page_cut (A' := A1) (c' := a1) hkk2 hrest2 .i64; clear hrest2)
         go_ret2
         rw [HF.out]
         exact ⟨rfl, (HS2.out.skip _).below⟩
     ·have HF := hide (show fds l = .bad 3 by rw [HFD.out, fds_bad r 3 hr0 (fd_no r tag rest HV.out (noTag_yes tag hno))]; rfl)
      go_wp2_with fail
      go_ret2
      rw [HF.out]
      exact ⟨rfl, hS.below⟩
end Go.Proofs.YtnohmgpmmhlloaaGreatDoor.S6

namespace Go.Proofs.YtnohmgpmmhlloaaGreatDoor.S6
set_option maxRecDepth 100000
open Go.RowKit
set_option linter.unusedSimpArgs false
theorem encode_bad (A1 A2 A3 A : Option Addr) (m1 m2 m3 n c1 c2 c3 c : Nat) (w : World) (h : n = 0 ∨ 8 < n) :
  Calls Tryz.prog 24 #[.agg #[.slice A1 m1 c1, .slice A n c, .slice A2 m2 c2, .slice A3 m3 c3]] w fun e w' => e = .returned (.tuple #[.slice none 0 0, .int .i64 1]) ∧ Below w.heap.size w w' := by
 have HS := hide ((St.init w NoB).alloc #[.slice A1 m1 c1, .slice A n c, .slice A2 m2 c2, .slice A3 m3 c3] 26)
 have t1 : _ = some (Value.slice A n c) := HS.out.cell 0 rfl 1
 rcases h with rfl | h
 ·go_enter Tryz.func24, Tryz.ntmps24
  go_wp2_with fail
  go_ret2
  exact ⟨rfl, HS.out.below⟩
 ·have d1 : ((n : Int) == 0) = false := by simp; omega
  have d1' : decide ((n : Int) = 0) = false := by simp; omega
  have d2 : decide ((8 : Int) < (n : Int)) = true := by simp; omega
  have d2' : decide (8 < n) = true := by simp; omega
  clear h
  go_enter Tryz.func24, Tryz.ntmps24
  go_wp2_with fail
  go_ret2
  exact ⟨rfl, HS.out.below⟩
theorem encodeR_bad (A1 A2 A3 A : Option Addr) (m1 m2 m3 n c1 c2 c3 c : Nat) (w : World) (h : n = 0 ∨ 8 < n) :
  Calls Tryz.prog 25 #[.agg #[.slice A1 m1 c1, .slice A n c, .slice A2 m2 c2, .slice A3 m3 c3]] w fun e w' => e = .returned (.tuple #[.slice none 0 0, .int .i64 1]) ∧ Below w.heap.size w w' := by
 have HS := hide ((St.init w NoB).alloc #[.slice A1 m1 c1, .slice A n c, .slice A2 m2 c2, .slice A3 m3 c3] 26)
 have t1 : _ = some (Value.slice A n c) := HS.out.cell 0 rfl 1
 rcases h with rfl | h
 ·go_enter Tryz.func25, Tryz.ntmps25
  go_wp2_with fail
  go_ret2
  exact ⟨rfl, HS.out.below⟩
 ·have d1 : ((n : Int) == 0) = false := by simp; omega
  have d1' : decide ((n : Int) = 0) = false := by simp; omega
  have d2 : decide ((8 : Int) < (n : Int)) = true := by simp; omega
  have d2' : decide (8 < n) = true := by simp; omega
  clear h
  go_enter Tryz.func25, Tryz.ntmps25
  go_wp2_with fail
  go_ret2
  exact ⟨rfl, HS.out.below⟩
section
variable {w0 w : World} {M : Nat → Prop} {H : List Chunk}
theorem fail_0 (g k : Nat) (hS : St w0 M w (.cells g #[.pointer none, .int .i64 0] 99 :: H)) :
  Calls Tryz.prog 69 #[.pointer (some ⟨g, 0, none⟩), .int .i64 (k : Int)] w fun e w' => e = .returned (.tuple #[]) ∧ St w0 M w' (.cells g #[.pointer none, .int .i64 (k : Int)] 99 :: H) := by
 have t1 : _ = some (Value.int .i64 0) := hS.cell 0 rfl 1
 have f1 := hS.free 0 rfl 1
 have HS := hide hS
 clear hS
 go_enter Tryz.func69, Tryz.ntmps69
 go_wp2_with fail
 go_end0
 exact ⟨rfl, HS.out.setCell 0 rfl 1 (.int .i64 (k : Int))⟩
theorem fail_k (g k j : Nat) (hj : j ≠ 0) (hS : St w0 M w (.cells g #[.pointer none, .int .i64 (j : Int)] 99 :: H)) :
  Calls Tryz.prog 69 #[.pointer (some ⟨g, 0, none⟩), .int .i64 (k : Int)] w fun e w' => e = .returned (.tuple #[]) ∧ St w0 M w' (.cells g #[.pointer none, .int .i64 (j : Int)] 99 :: H) := by
 have t1 : _ = some (Value.int .i64 (j : Int)) := hS.cell 0 rfl 1
 have HS := hide hS
 have d1 : ((j : Int) == 0) = false := by simp; omega
 have d1' : decide ((j : Int) = 0) = false := by simp; omega
 clear hS hj
 go_enter Tryz.func69, Tryz.ntmps69
 go_wp2_with fail
 go_end0
 exact ⟨rfl, HS.out⟩
theorem rfields_bad (g : Nat) (A : Option Addr) (n c : Nat) (l : List UInt8) (k : Nat) (hl : l.length = n) (hn : n ≤ 65536) (hf : fds l = .bad k) (hr : Rd w (.slice A n c) 1 n (bvs l)) (hS : St w0 M w (.cells g #[.pointer none, .int .i64 0] 99 :: H)) :
  Calls Tryz.prog 66 #[.pointer (some ⟨g, 0, none⟩), .slice A n c] w fun e w' => e = .returned (.slice none 0 0) ∧ St w0 M w' (.cells g #[.pointer none, .int .i64 (k : Int)] 99 :: H) := by
 have HF := pfields_walk w A c l (by omega) (hl ▸ hr)
 rw [hl, hf] at HF
 have HC := hide HF
 have hk : k = 2 ∨ k = 3 := fds_bads l k hf
 have d0 : ((k : Int) != 0) = true := by simp; omega
 have d0' : decide ((k : Int) = 0) = false := by simp; omega
 have t1 : _ = some (Value.int .i64 0) := hS.cell 0 rfl 1
 have HS := hide hS
 clear HF hr hk hS hf hl
 go_enter Tryz.func66, Tryz.ntmps66
 have M0 := True.intro
 go_wp2_with (first
  | (clear M1; go_at_call 69; (with_reducible refine (fail_0 g k HS.out).mono ?_); rintro e w3 ⟨rfl, hS3⟩; have HS := hide hS3; clear hS3; have M2 := True.intro)
  | (clear M0; go_at_call 115; (with_reducible refine HC.out.mono ?_); rintro e w2 ⟨rfl, hb⟩; have HS := hide (HS.out.call hb); clear hb; have M1 := True.intro))
 go_ret
 exact ⟨rfl, HS.out⟩
theorem rfields_ok (g : Nat) (A : Option Addr) (n c : Nat) (l : List UInt8) (fs : List FdV) (hl : l.length = n) (hn : n ≤ 65536) (hf : fds l = .ok fs) (hr : Rd w (.slice A n c) 1 n (bvs l)) (hS : St w0 M w (.cells g #[.pointer none, .int .i64 0] 99 :: H)) :
  Calls Tryz.prog 66 #[.pointer (some ⟨g, 0, none⟩), .slice A n c] w fun e w' => ∃ (xs : List FdL) (B : Option Addr) (d : Nat), e = .returned (.slice B xs.length d) ∧ xs.map FdL.f = fs ∧ St w0 M w' (.cells g #[.pointer none, .int .i64 0] 99 :: (H ++ (.row (.slice B xs.length d) 102 4 xs.length (cellsF xs) :: chunksF xs))) := by
 have HF := pfields_walk w A c l (by omega) (hl ▸ hr)
 rw [hl, hf] at HF
 have HC := hide HF
 have t1 : _ = some (Value.int .i64 0) := hS.cell 0 rfl 1
 have HS := hide hS
 clear HF hr hS hf hl
 go_enter Tryz.func66, Tryz.ntmps66
 go_wp2_with (go_at_call 115; (with_reducible refine HC.out.mono ?_); rintro e w2 ⟨xs, B, d, rfl, hx, hS2⟩; have HS2 := hide (St.rot _ _ (HS.out.join hS2)); clear hS2)
 go_ret
 exact ⟨xs, B, d, rfl, hx, HS2.out⟩
end
end Go.Proofs.YtnohmgpmmhlloaaGreatDoor.S6

namespace Go.Proofs.YtnohmgpmmhlloaaGreatDoor.S6
set_option maxRecDepth 100000
open Go.RowKit
set_option linter.unusedSimpArgs false
theorem szField6 : (Tryz.prog.info? 102).map (·.size) = some 4 := by kernel_rfl
section
variable {w0 w : World} {M : Nat → Prop} {H : List Chunk}
theorem fits_a (KA : ByteArray) (nk kb : Nat) (g : Nat) (B : Option Addr) (m d k j : Nat) (xs : List FdL) (x : FdL) (hk : xs[k]? = some x) (hkm : k < m) (hj : x.f.num = j + 1) (hkb : kb = 50 ∨ kb = 51) (hix : j < nk → ∀ W, (Instr.index 9 (.string KA) (.int .i64 (j : Int))).run Tryz.prog W = .ok (.int .u8 (kb : Int)) W) (hjn : j < nk) (hw : x.f.whole = true) (h0 : k = 0) (hrow : Chunk.row (.slice B m d) 102 4 m (cellsF xs) ∈ H) (hm : m ≤ 65536) (hnk : nk ≤ 100) (hsz : KA.size = nk) (hS : St w0 M w (.cells g #[.pointer none, .int .i64 0] 99 :: H)) :
  Calls Tryz.prog 67 #[.pointer (some ⟨g, 0, none⟩), .slice B m d, .int .i64 (k : Int), .string KA] w fun e w' => e = .returned (.bool true) ∧ St w0 M w' (.cells g #[.pointer none, .int .i64 0] 99 :: H) := by
 obtain ⟨b, o, rfl, hb8, hc⟩ := fd_at (row_rd hS (List.mem_cons_of_mem _ hrow)) hk
 obtain ⟨k0, k1, k2', k3⟩ := hc _ (Below.refl _ _)
 obtain ⟨⟨num, whole, fn, fb⟩, X, xc⟩ := x
 replace hj : num = j + 1 := hj
 replace hw : whole = true := hw
 subst hj hw
 have t1 : _ = some (Value.int .i64 0) := hS.cell 0 rfl 1
 have kn : (k : Int) < (m : Int) := by omega
 have HS := hide hS
 have d1 : decide ((nk : Int) < (j : Int) + 1) = false := by (simp) <;> omega
 have HIX := hix hjn
 have d30 : ((kb : Int) != 49) = true := by rcases hkb with rfl | rfl <;> rfl
 have jb : (j : Int) < 100 := by omega
 have z0 : decide ((0 : Int) < (k : Int)) = false := by (simp) <;> omega
 have z0' : decide (0 < k) = false := by (simp) <;> omega
 clear hc hS h0 hix hkb
 go_enter Tryz.func67, Tryz.ntmps67
 go_upto_region 2 with (refine wl_storeC rfl rfl (HS.out.alloc _ _) 0 rfl (vs := [.int .i64 ((j + 1 : Nat) : Int), .bool true, .int .u64 (fn : Int), .slice X fb.length xc]) szField6 (Nat.le_refl _) rfl rfl oneF ?_; intro w5 hS5; have HS5 := hide hS5; clear hS5)
 have t1 : _ = some (Value.int .i64 0) := HS5.out.cell 1 rfl 1
 go_upto_region 4 with fail
 refine wp_region_T [(0, 1), (1, 0), (2, 1), (3, 1), (4, 1), (5, 1), (6, 1), (7, 1), (8, 0), (9, 1), (10, 1), (11, 1), (12, 1), (13, 0), (14, 1), (15, 1), (16, 1), (17, 1), (18, 1), (19, 1), (20, 1), (21, 1), (22, 1), (23, 1), (24, 1), (25, 0), (26, 1), (27, 0), (28, 1), (29, 1), (30, 1), (31, 1), (32, 1), (33, 1), (34, 1), (35, 0), (36, 1), (37, 0), (38, 1), (39, 1), (40, 1), (41, 1), (42, 0), (43, 1), (44, 1), (45, 1), (46, 1), (47, 1), (48, 1), (49, 1)] (by kernel_rfl) (by kernel_rfl) (fun _ _ _ _ h => h) ?_
 have HS := hide HS5.out.drew
 generalize w5.drew = w6 at HS ⊢
 have s0 : _ = some (Value.int .i64 ((j + 1 : Nat) : Int)) := HS.out.cell 0 rfl 0
 have s1 : _ = some (Value.bool true) := HS.out.cell 0 rfl 1
 go_wp2_with (first | (refine wpT_nil ?_)   | ((with_reducible refine fromT_refl ?_); (try simp only [Act.put, nq1, nq2, nq3, nq4, nq5, nq6]))   | ((with_reducible refine fromT_mk (by assumption) ?_); (try simp only [Act.put, nq1, nq2, nq3, nq4, nq5, nq6]))   | (refine wpT_pure (v := ?_) rfl rfl ?_ ?_; rotate_left; (intro wx; go_simp; try go_bits) <;> (with_reducible rfl); (try simp only [Act.put, nq1, nq2, nq3, nq4, nq5, nq6]))   | (refine wpT_load (v := ?_) rfl rfl rfl ?_ ?_; rotate_left; (go_simp; try go_bits) <;> (with_reducible rfl); (try simp only [Act.put, nq1, nq2, nq3, nq4, nq5, nq6]))   | (refine wpT_read (v := ?_) rfl rfl ?_ ?_; rotate_left; (intro wx hx; go_simp; try go_bits) <;> (with_reducible rfl); (try simp only [Act.put, nq1, nq2, nq3, nq4, nq5, nq6]))   | (refine wpT_call rfl rfl ?_; intro K hK)   | (refine wpT_late rfl rfl ?_; intro K hK)   | (refine wpT_any rfl rfl ?_; intro K hK)   | (refine wpT_skip rfl rfl ?_; (try simp only [Act.put, nq1, nq2, nq3, nq4, nq5, nq6])))
 go_ret
 exact ⟨rfl, HS.out.tail⟩
theorem fits_b (KA : ByteArray) (nk kb : Nat) (g : Nat) (B : Option Addr) (m d k j : Nat) (xs : List FdL) (x : FdL) (hk : xs[k]? = some x) (hkm : k < m) (hj : x.f.num = j + 1) (hkb : kb = 50 ∨ kb = 51) (hix : j < nk → ∀ W, (Instr.index 9 (.string KA) (.int .i64 (j : Int))).run Tryz.prog W = .ok (.int .u8 (kb : Int)) W) (hjn : j < nk) (hw : x.f.whole = true) (p : FdL) (last : Nat) (k2 : Nat) (hk2 : k = k2 + 1) (hp : xs[k2]? = some p) (hpl : p.f.num = last) (hlt : last < j + 1) (hrow : Chunk.row (.slice B m d) 102 4 m (cellsF xs) ∈ H) (hm : m ≤ 65536) (hnk : nk ≤ 100) (hsz : KA.size = nk) (hS : St w0 M w (.cells g #[.pointer none, .int .i64 0] 99 :: H)) :
  Calls Tryz.prog 67 #[.pointer (some ⟨g, 0, none⟩), .slice B m d, .int .i64 (k : Int), .string KA] w fun e w' => e = .returned (.bool true) ∧ St w0 M w' (.cells g #[.pointer none, .int .i64 0] 99 :: H) := by
 subst hk2
 obtain ⟨b, o, rfl, hb8, hc⟩ := fd_at (row_rd hS (List.mem_cons_of_mem _ hrow)) hk
 obtain ⟨k0, k1, k2', k3⟩ := hc _ (Below.refl _ _)
 obtain ⟨⟨num, whole, fn, fb⟩, X, xc⟩ := x
 replace hj : num = j + 1 := hj
 replace hw : whole = true := hw
 subst hj hw
 have t1 : _ = some (Value.int .i64 0) := hS.cell 0 rfl 1
 have kn : ((k2 : Int) + 1 : Int) < (m : Int) := by omega
 have HS := hide hS
 have d1 : decide ((nk : Int) < (j : Int) + 1) = false := by (simp) <;> omega
 have HIX := hix hjn
 have d30 : ((kb : Int) != 49) = true := by rcases hkb with rfl | rfl <;> rfl
 have jb : (j : Int) < 100 := by omega
 have z0 : decide ((0 : Int) < (k2 : Int) + 1) = true := by (simp) <;> omega
 have en : (k2 : Int) + 1 - 1 = (k2 : Int) := by omega
 have nn : (k2 : Int) < (m : Int) := by omega
 have hlb : (last : Int) < 1000 := by omega
 have e1 : decide ((j : Int) + 1 < (last : Int)) = false := by (simp) <;> omega
 have e2 : ((last : Int) == (j : Int) + 1) = false := by (simp) <;> omega
 have e2' : decide ((last : Int) = (j : Int) + 1) = false := by (simp) <;> omega
 clear hc hS hix hkb hlt
 go_enter Tryz.func67, Tryz.ntmps67
 go_upto_region 2 with (refine wl_storeC rfl rfl (HS.out.alloc _ _) 0 rfl (vs := [.int .i64 ((j + 1 : Nat) : Int), .bool true, .int .u64 (fn : Int), .slice X fb.length xc]) szField6 (Nat.le_refl _) rfl rfl oneF ?_; intro w5 hS5; have HS5 := hide hS5; clear hS5)
 have t1 : _ = some (Value.int .i64 0) := HS5.out.cell 1 rfl 1
 go_upto_region 4 with fail
 refine wp_region_T [(0, 1), (1, 0), (2, 1), (3, 1), (4, 1), (5, 1), (6, 1), (7, 1), (8, 0), (9, 1), (10, 1), (11, 1), (12, 1), (13, 0), (14, 1), (15, 1), (16, 1), (17, 1), (18, 1), (19, 1), (20, 1), (21, 1), (22, 1), (23, 1), (24, 1), (25, 0), (26, 1), (27, 0), (28, 1), (29, 1), (30, 1), (31, 1), (32, 1), (33, 1), (34, 1), (35, 0), (36, 1), (37, 0), (38, 1), (39, 1), (40, 1), (41, 1), (42, 0), (43, 1), (44, 1), (45, 1), (46, 1), (47, 1), (48, 1), (49, 1)] (by kernel_rfl) (by kernel_rfl) (fun _ _ _ _ h => h) ?_
 have HS := hide HS5.out.drew
 generalize w5.drew = w6 at HS ⊢
 have s0 : _ = some (Value.int .i64 ((j + 1 : Nat) : Int)) := HS.out.cell 0 rfl 0
 have s1 : _ = some (Value.bool true) := HS.out.cell 0 rfl 1
 obtain ⟨b2, o2, he2, hb9, hc9⟩ := fd_at (row_rd HS.out (List.mem_cons_of_mem _ (List.mem_cons_of_mem _ hrow))) hp
 obtain ⟨p0, _, _, _⟩ := hc9 _ (Below.refl _ _)
 injection he2 with he2
 injection he2 with he2 he3
 subst he2 he3
 rw [hpl] at p0
 clear hc9 hp hpl
 go_wp2_with (first | (refine wpT_nil ?_)   | ((with_reducible refine fromT_refl ?_); (try simp only [Act.put, nq1, nq2, nq3, nq4, nq5, nq6]))   | ((with_reducible refine fromT_mk (by assumption) ?_); (try simp only [Act.put, nq1, nq2, nq3, nq4, nq5, nq6]))   | (refine wpT_pure (v := ?_) rfl rfl ?_ ?_; rotate_left; (intro wx; go_simp; try go_bits) <;> (with_reducible rfl); (try simp only [Act.put, nq1, nq2, nq3, nq4, nq5, nq6]))   | (refine wpT_load (v := ?_) rfl rfl rfl ?_ ?_; rotate_left; (go_simp; try go_bits) <;> (with_reducible rfl); (try simp only [Act.put, nq1, nq2, nq3, nq4, nq5, nq6]))   | (refine wpT_read (v := ?_) rfl rfl ?_ ?_; rotate_left; (intro wx hx; go_simp; try go_bits) <;> (with_reducible rfl); (try simp only [Act.put, nq1, nq2, nq3, nq4, nq5, nq6]))   | (refine wpT_call rfl rfl ?_; intro K hK)   | (refine wpT_late rfl rfl ?_; intro K hK)   | (refine wpT_any rfl rfl ?_; intro K hK)   | (refine wpT_skip rfl rfl ?_; (try simp only [Act.put, nq1, nq2, nq3, nq4, nq5, nq6])))
 go_ret
 exact ⟨rfl, HS.out.tail⟩
theorem fits_c (KA : ByteArray) (nk kb : Nat) (g : Nat) (B : Option Addr) (m d k j : Nat) (xs : List FdL) (x : FdL) (hk : xs[k]? = some x) (hkm : k < m) (hj : x.f.num = j + 1) (hkb : kb = 50 ∨ kb = 51) (hix : j < nk → ∀ W, (Instr.index 9 (.string KA) (.int .i64 (j : Int))).run Tryz.prog W = .ok (.int .u8 (kb : Int)) W) (hjn : j < nk) (hw : x.f.whole = true) (p : FdL) (last : Nat) (k2 : Nat) (hk2 : k = k2 + 1) (hp : xs[k2]? = some p) (hpl : p.f.num = last) (hlt : last = j + 1) (hkk : kb = 51) (hrow : Chunk.row (.slice B m d) 102 4 m (cellsF xs) ∈ H) (hm : m ≤ 65536) (hnk : nk ≤ 100) (hsz : KA.size = nk) (hS : St w0 M w (.cells g #[.pointer none, .int .i64 0] 99 :: H)) :
  Calls Tryz.prog 67 #[.pointer (some ⟨g, 0, none⟩), .slice B m d, .int .i64 (k : Int), .string KA] w fun e w' => e = .returned (.bool true) ∧ St w0 M w' (.cells g #[.pointer none, .int .i64 0] 99 :: H) := by
 subst hk2
 obtain ⟨b, o, rfl, hb8, hc⟩ := fd_at (row_rd hS (List.mem_cons_of_mem _ hrow)) hk
 obtain ⟨k0, k1, k2', k3⟩ := hc _ (Below.refl _ _)
 obtain ⟨⟨num, whole, fn, fb⟩, X, xc⟩ := x
 replace hj : num = j + 1 := hj
 replace hw : whole = true := hw
 subst hj hw
 have t1 : _ = some (Value.int .i64 0) := hS.cell 0 rfl 1
 have kn : ((k2 : Int) + 1 : Int) < (m : Int) := by omega
 have HS := hide hS
 have d1 : decide ((nk : Int) < (j : Int) + 1) = false := by (simp) <;> omega
 have HIX := hix hjn
 have d30 : ((kb : Int) != 49) = true := by rcases hkb with rfl | rfl <;> rfl
 have jb : (j : Int) < 100 := by omega
 have z0 : decide ((0 : Int) < (k2 : Int) + 1) = true := by (simp) <;> omega
 have en : (k2 : Int) + 1 - 1 = (k2 : Int) := by omega
 have nn : (k2 : Int) < (m : Int) := by omega
 have hlb : (last : Int) < 1000 := by omega
 have e1 : decide ((j : Int) + 1 < (last : Int)) = false := by (simp) <;> omega
 have e2 : ((last : Int) == (j : Int) + 1) = true := by (simp) <;> omega
 have e2' : decide ((last : Int) = (j : Int) + 1) = true := by (simp) <;> omega
 have e3 : ((kb : Int) != 51) = false := by subst hkk; rfl
 clear hc hS hix hkb hkk hlt
 go_enter Tryz.func67, Tryz.ntmps67
 go_upto_region 2 with (refine wl_storeC rfl rfl (HS.out.alloc _ _) 0 rfl (vs := [.int .i64 ((j + 1 : Nat) : Int), .bool true, .int .u64 (fn : Int), .slice X fb.length xc]) szField6 (Nat.le_refl _) rfl rfl oneF ?_; intro w5 hS5; have HS5 := hide hS5; clear hS5)
 have t1 : _ = some (Value.int .i64 0) := HS5.out.cell 1 rfl 1
 go_upto_region 4 with fail
 refine wp_region_T [(0, 1), (1, 0), (2, 1), (3, 1), (4, 1), (5, 1), (6, 1), (7, 1), (8, 0), (9, 1), (10, 1), (11, 1), (12, 1), (13, 0), (14, 1), (15, 1), (16, 1), (17, 1), (18, 1), (19, 1), (20, 1), (21, 1), (22, 1), (23, 1), (24, 1), (25, 0), (26, 1), (27, 0), (28, 1), (29, 1), (30, 1), (31, 1), (32, 1), (33, 1), (34, 1), (35, 0), (36, 1), (37, 0), (38, 1), (39, 1), (40, 1), (41, 1), (42, 0), (43, 1), (44, 1), (45, 1), (46, 1), (47, 1), (48, 1), (49, 1)] (by kernel_rfl) (by kernel_rfl) (fun _ _ _ _ h => h) ?_
 have HS := hide HS5.out.drew
 generalize w5.drew = w6 at HS ⊢
 have s0 : _ = some (Value.int .i64 ((j + 1 : Nat) : Int)) := HS.out.cell 0 rfl 0
 have s1 : _ = some (Value.bool true) := HS.out.cell 0 rfl 1
 obtain ⟨b2, o2, he2, hb9, hc9⟩ := fd_at (row_rd HS.out (List.mem_cons_of_mem _ (List.mem_cons_of_mem _ hrow))) hp
 obtain ⟨p0, _, _, _⟩ := hc9 _ (Below.refl _ _)
 injection he2 with he2
 injection he2 with he2 he3
 subst he2 he3
 rw [hpl] at p0
 clear hc9 hp hpl
 go_wp2_with (first | (refine wpT_nil ?_)   | ((with_reducible refine fromT_refl ?_); (try simp only [Act.put, nq1, nq2, nq3, nq4, nq5, nq6]))   | ((with_reducible refine fromT_mk (by assumption) ?_); (try simp only [Act.put, nq1, nq2, nq3, nq4, nq5, nq6]))   | (refine wpT_pure (v := ?_) rfl rfl ?_ ?_; rotate_left; (intro wx; go_simp; try go_bits) <;> (with_reducible rfl); (try simp only [Act.put, nq1, nq2, nq3, nq4, nq5, nq6]))   | (refine wpT_load (v := ?_) rfl rfl rfl ?_ ?_; rotate_left; (go_simp; try go_bits) <;> (with_reducible rfl); (try simp only [Act.put, nq1, nq2, nq3, nq4, nq5, nq6]))   | (refine wpT_read (v := ?_) rfl rfl ?_ ?_; rotate_left; (intro wx hx; go_simp; try go_bits) <;> (with_reducible rfl); (try simp only [Act.put, nq1, nq2, nq3, nq4, nq5, nq6]))   | (refine wpT_call rfl rfl ?_; intro K hK)   | (refine wpT_late rfl rfl ?_; intro K hK)   | (refine wpT_any rfl rfl ?_; intro K hK)   | (refine wpT_skip rfl rfl ?_; (try simp only [Act.put, nq1, nq2, nq3, nq4, nq5, nq6])))
 go_ret
 exact ⟨rfl, HS.out.tail⟩
end
end Go.Proofs.YtnohmgpmmhlloaaGreatDoor.S6

namespace Go.Proofs.YtnohmgpmmhlloaaGreatDoor.S6
set_option maxRecDepth 100000
open Go.RowKit
set_option linter.unusedSimpArgs false
section
variable {w0 w : World} {M : Nat → Prop} {H : List Chunk}
theorem fail_3 (g : Nat) (hS : St w0 M w (.cells g #[.pointer none, .int .i64 0] 99 :: H)) :
  Calls Tryz.prog 69 #[.pointer (some ⟨g, 0, none⟩), .int .i64 3] w fun e w' => e = .returned (.tuple #[]) ∧ St w0 M w' (.cells g #[.pointer none, .int .i64 3] 99 :: H) := fail_0 g 3 hS
theorem fail_k3 (g j : Nat) (hj : j ≠ 0) (hS : St w0 M w (.cells g #[.pointer none, .int .i64 (j : Int)] 99 :: H)) :
  Calls Tryz.prog 69 #[.pointer (some ⟨g, 0, none⟩), .int .i64 3] w fun e w' => e = .returned (.tuple #[]) ∧ St w0 M w' (.cells g #[.pointer none, .int .i64 (j : Int)] 99 :: H) := fail_k g 3 j hj hS
theorem fits_n1 (KA : ByteArray) (nk kb : Nat) (g : Nat) (B : Option Addr) (m d k j : Nat) (xs : List FdL) (x : FdL) (hk : xs[k]? = some x) (hkm : k < m) (hj : x.f.num = j + 1) (hjn : nk < j + 1) (hj9 : j ≤ 100) (hrow : Chunk.row (.slice B m d) 102 4 m (cellsF xs) ∈ H) (hm : m ≤ 65536) (hnk : nk ≤ 100) (hsz : KA.size = nk) (hS : St w0 M w (.cells g #[.pointer none, .int .i64 0] 99 :: H)) :
  Calls Tryz.prog 67 #[.pointer (some ⟨g, 0, none⟩), .slice B m d, .int .i64 (k : Int), .string KA] w fun e w' => e = .returned (.bool false) ∧ St w0 M w' (.cells g #[.pointer none, .int .i64 3] 99 :: H) := by
 obtain ⟨b, o, rfl, hb8, hc⟩ := fd_at (row_rd hS (List.mem_cons_of_mem _ hrow)) hk
 obtain ⟨k0, k1, k2', k3⟩ := hc _ (Below.refl _ _)
 obtain ⟨⟨num, whole, fn, fb⟩, X, xc⟩ := x
 replace hj : num = j + 1 := hj
 subst hj
 have t1 : _ = some (Value.int .i64 0) := hS.cell 0 rfl 1
 have kn : (k : Int) < (m : Int) := by omega
 have HS := hide hS
 have d1 : decide ((nk : Int) < (j : Int) + 1) = true := by (simp) <;> omega
 have jb : (j : Int) ≤ 100 := by omega
 clear hc hS hjn
 go_enter Tryz.func67, Tryz.ntmps67
 go_upto_region 2 with (refine wl_storeC rfl rfl (HS.out.alloc _ _) 0 rfl (vs := [.int .i64 ((j + 1 : Nat) : Int), .bool whole, .int .u64 (fn : Int), .slice X fb.length xc]) szField6 (Nat.le_refl _) rfl rfl oneF ?_; intro w5 hS5; have HS5 := hide hS5; clear hS5)
 have t1 : _ = some (Value.int .i64 0) := HS5.out.cell 1 rfl 1
 go_upto_region 4 with fail
 refine wp_region_T [(0, 1), (1, 0), (2, 1), (3, 1), (4, 1), (5, 1), (6, 1), (7, 1), (8, 0), (9, 1), (10, 1), (11, 1), (12, 1), (13, 0), (14, 1), (15, 1), (16, 1), (17, 1), (18, 1), (19, 1), (20, 1), (21, 1), (22, 1), (23, 1), (24, 1), (25, 0), (26, 1), (27, 0), (28, 1), (29, 1), (30, 1), (31, 1), (32, 1), (33, 1), (34, 1), (35, 0), (36, 1), (37, 0), (38, 1), (39, 1), (40, 1), (41, 1), (42, 0), (43, 1), (44, 1), (45, 1), (46, 1), (47, 1), (48, 1), (49, 1)] (by kernel_rfl) (by kernel_rfl) (fun _ _ _ _ h => h) ?_
 have HS := hide HS5.out.drew
 generalize w5.drew = w6 at HS ⊢
 have s0 : _ = some (Value.int .i64 ((j + 1 : Nat) : Int)) := HS.out.cell 0 rfl 0
 have s1 : _ = some (Value.bool whole) := HS.out.cell 0 rfl 1
 go_wp2_with (first
  | (go_at_call 69; (with_reducible refine (fail_3 g HS.out.swap).mono ?_); rintro e w7 ⟨rfl, hS7⟩; have HS7 := hide hS7; clear hS7)
  | (refine wpT_nil ?_)   | ((with_reducible refine fromT_refl ?_); (try simp only [Act.put, nq1, nq2, nq3, nq4, nq5, nq6]))   | ((with_reducible refine fromT_mk (by assumption) ?_); (try simp only [Act.put, nq1, nq2, nq3, nq4, nq5, nq6]))   | (refine wpT_pure (v := ?_) rfl rfl ?_ ?_; rotate_left; (intro wx; go_simp; try go_bits) <;> (with_reducible rfl); (try simp only [Act.put, nq1, nq2, nq3, nq4, nq5, nq6]))   | (refine wpT_load (v := ?_) rfl rfl rfl ?_ ?_; rotate_left; (go_simp; try go_bits) <;> (with_reducible rfl); (try simp only [Act.put, nq1, nq2, nq3, nq4, nq5, nq6]))   | (refine wpT_read (v := ?_) rfl rfl ?_ ?_; rotate_left; (intro wx hx; go_simp; try go_bits) <;> (with_reducible rfl); (try simp only [Act.put, nq1, nq2, nq3, nq4, nq5, nq6]))   | (refine wpT_call rfl rfl ?_; intro K hK)   | (refine wpT_late rfl rfl ?_; intro K hK)   | (refine wpT_any rfl rfl ?_; intro K hK)   | (refine wpT_skip rfl rfl ?_; (try simp only [Act.put, nq1, nq2, nq3, nq4, nq5, nq6])))
 go_ret
 exact ⟨rfl, HS7.out.swap.tail⟩
theorem fits_n2 (KA : ByteArray) (nk kb : Nat) (g : Nat) (B : Option Addr) (m d k j : Nat) (xs : List FdL) (x : FdL) (hk : xs[k]? = some x) (hkm : k < m) (hj : x.f.num = j + 1) (hkb : kb = 50 ∨ kb = 51) (hix : j < nk → ∀ W, (Instr.index 9 (.string KA) (.int .i64 (j : Int))).run Tryz.prog W = .ok (.int .u8 (kb : Int)) W) (hjn : j < nk) (hw : x.f.whole = false) (hrow : Chunk.row (.slice B m d) 102 4 m (cellsF xs) ∈ H) (hm : m ≤ 65536) (hnk : nk ≤ 100) (hsz : KA.size = nk) (hS : St w0 M w (.cells g #[.pointer none, .int .i64 0] 99 :: H)) :
  Calls Tryz.prog 67 #[.pointer (some ⟨g, 0, none⟩), .slice B m d, .int .i64 (k : Int), .string KA] w fun e w' => e = .returned (.bool false) ∧ St w0 M w' (.cells g #[.pointer none, .int .i64 3] 99 :: H) := by
 obtain ⟨b, o, rfl, hb8, hc⟩ := fd_at (row_rd hS (List.mem_cons_of_mem _ hrow)) hk
 obtain ⟨k0, k1, k2', k3⟩ := hc _ (Below.refl _ _)
 obtain ⟨⟨num, whole, fn, fb⟩, X, xc⟩ := x
 replace hj : num = j + 1 := hj
 replace hw : whole = false := hw
 subst hj hw
 have t1 : _ = some (Value.int .i64 0) := hS.cell 0 rfl 1
 have kn : (k : Int) < (m : Int) := by omega
 have HS := hide hS
 have d1 : decide ((nk : Int) < (j : Int) + 1) = false := by (simp) <;> omega
 have HIX := hix hjn
 have d30 : ((kb : Int) != 49) = true := by rcases hkb with rfl | rfl <;> rfl
 have jb : (j : Int) < 100 := by omega
 clear hc hS hix hkb
 go_enter Tryz.func67, Tryz.ntmps67
 go_upto_region 2 with (refine wl_storeC rfl rfl (HS.out.alloc _ _) 0 rfl (vs := [.int .i64 ((j + 1 : Nat) : Int), .bool false, .int .u64 (fn : Int), .slice X fb.length xc]) szField6 (Nat.le_refl _) rfl rfl oneF ?_; intro w5 hS5; have HS5 := hide hS5; clear hS5)
 have t1 : _ = some (Value.int .i64 0) := HS5.out.cell 1 rfl 1
 go_upto_region 4 with fail
 refine wp_region_T [(0, 1), (1, 0), (2, 1), (3, 1), (4, 1), (5, 1), (6, 1), (7, 1), (8, 0), (9, 1), (10, 1), (11, 1), (12, 1), (13, 0), (14, 1), (15, 1), (16, 1), (17, 1), (18, 1), (19, 1), (20, 1), (21, 1), (22, 1), (23, 1), (24, 1), (25, 0), (26, 1), (27, 0), (28, 1), (29, 1), (30, 1), (31, 1), (32, 1), (33, 1), (34, 1), (35, 0), (36, 1), (37, 0), (38, 1), (39, 1), (40, 1), (41, 1), (42, 0), (43, 1), (44, 1), (45, 1), (46, 1), (47, 1), (48, 1), (49, 1)] (by kernel_rfl) (by kernel_rfl) (fun _ _ _ _ h => h) ?_
 have HS := hide HS5.out.drew
 generalize w5.drew = w6 at HS ⊢
 have s0 : _ = some (Value.int .i64 ((j + 1 : Nat) : Int)) := HS.out.cell 0 rfl 0
 have s1 : _ = some (Value.bool false) := HS.out.cell 0 rfl 1
 go_wp2_with (first
  | (go_at_call 69; (with_reducible refine (fail_3 g HS.out.swap).mono ?_); rintro e w7 ⟨rfl, hS7⟩; have HS7 := hide hS7; clear hS7)
  | (refine wpT_nil ?_)   | ((with_reducible refine fromT_refl ?_); (try simp only [Act.put, nq1, nq2, nq3, nq4, nq5, nq6]))   | ((with_reducible refine fromT_mk (by assumption) ?_); (try simp only [Act.put, nq1, nq2, nq3, nq4, nq5, nq6]))   | (refine wpT_pure (v := ?_) rfl rfl ?_ ?_; rotate_left; (intro wx; go_simp; try go_bits) <;> (with_reducible rfl); (try simp only [Act.put, nq1, nq2, nq3, nq4, nq5, nq6]))   | (refine wpT_load (v := ?_) rfl rfl rfl ?_ ?_; rotate_left; (go_simp; try go_bits) <;> (with_reducible rfl); (try simp only [Act.put, nq1, nq2, nq3, nq4, nq5, nq6]))   | (refine wpT_read (v := ?_) rfl rfl ?_ ?_; rotate_left; (intro wx hx; go_simp; try go_bits) <;> (with_reducible rfl); (try simp only [Act.put, nq1, nq2, nq3, nq4, nq5, nq6]))   | (refine wpT_call rfl rfl ?_; intro K hK)   | (refine wpT_late rfl rfl ?_; intro K hK)   | (refine wpT_any rfl rfl ?_; intro K hK)   | (refine wpT_skip rfl rfl ?_; (try simp only [Act.put, nq1, nq2, nq3, nq4, nq5, nq6])))
 go_ret
 exact ⟨rfl, HS7.out.swap.tail⟩
theorem fits_n3 (KA : ByteArray) (nk kb : Nat) (g : Nat) (B : Option Addr) (m d k j : Nat) (xs : List FdL) (x : FdL) (hk : xs[k]? = some x) (hkm : k < m) (hj : x.f.num = j + 1) (hkb : kb = 50 ∨ kb = 51) (hix : j < nk → ∀ W, (Instr.index 9 (.string KA) (.int .i64 (j : Int))).run Tryz.prog W = .ok (.int .u8 (kb : Int)) W) (hjn : j < nk) (hw : x.f.whole = true) (p : FdL) (last : Nat) (k2 : Nat) (hk2 : k = k2 + 1) (hp : xs[k2]? = some p) (hpl : p.f.num = last) (hlt : j + 1 < last) (hl9 : last ≤ 100) (hrow : Chunk.row (.slice B m d) 102 4 m (cellsF xs) ∈ H) (hm : m ≤ 65536) (hnk : nk ≤ 100) (hsz : KA.size = nk) (hS : St w0 M w (.cells g #[.pointer none, .int .i64 0] 99 :: H)) :
  Calls Tryz.prog 67 #[.pointer (some ⟨g, 0, none⟩), .slice B m d, .int .i64 (k : Int), .string KA] w fun e w' => e = .returned (.bool false) ∧ St w0 M w' (.cells g #[.pointer none, .int .i64 3] 99 :: H) := by
 subst hk2
 obtain ⟨b, o, rfl, hb8, hc⟩ := fd_at (row_rd hS (List.mem_cons_of_mem _ hrow)) hk
 obtain ⟨k0, k1, k2', k3⟩ := hc _ (Below.refl _ _)
 obtain ⟨⟨num, whole, fn, fb⟩, X, xc⟩ := x
 replace hj : num = j + 1 := hj
 replace hw : whole = true := hw
 subst hj hw
 have t1 : _ = some (Value.int .i64 0) := hS.cell 0 rfl 1
 have kn : ((k2 : Int) + 1 : Int) < (m : Int) := by omega
 have HS := hide hS
 have d1 : decide ((nk : Int) < (j : Int) + 1) = false := by (simp) <;> omega
 have HIX := hix hjn
 have d30 : ((kb : Int) != 49) = true := by rcases hkb with rfl | rfl <;> rfl
 have jb : (j : Int) < 100 := by omega
 have z0 : decide ((0 : Int) < (k2 : Int) + 1) = true := by (simp) <;> omega
 have en : (k2 : Int) + 1 - 1 = (k2 : Int) := by omega
 have nn : (k2 : Int) < (m : Int) := by omega
 have hlb : (last : Int) < 1000 := by omega
 have e1 : decide ((j : Int) + 1 < (last : Int)) = true := by (simp) <;> omega
 clear hc hS hix hkb hlt
 go_enter Tryz.func67, Tryz.ntmps67
 go_upto_region 2 with (refine wl_storeC rfl rfl (HS.out.alloc _ _) 0 rfl (vs := [.int .i64 ((j + 1 : Nat) : Int), .bool true, .int .u64 (fn : Int), .slice X fb.length xc]) szField6 (Nat.le_refl _) rfl rfl oneF ?_; intro w5 hS5; have HS5 := hide hS5; clear hS5)
 have t1 : _ = some (Value.int .i64 0) := HS5.out.cell 1 rfl 1
 go_upto_region 4 with fail
 refine wp_region_T [(0, 1), (1, 0), (2, 1), (3, 1), (4, 1), (5, 1), (6, 1), (7, 1), (8, 0), (9, 1), (10, 1), (11, 1), (12, 1), (13, 0), (14, 1), (15, 1), (16, 1), (17, 1), (18, 1), (19, 1), (20, 1), (21, 1), (22, 1), (23, 1), (24, 1), (25, 0), (26, 1), (27, 0), (28, 1), (29, 1), (30, 1), (31, 1), (32, 1), (33, 1), (34, 1), (35, 0), (36, 1), (37, 0), (38, 1), (39, 1), (40, 1), (41, 1), (42, 0), (43, 1), (44, 1), (45, 1), (46, 1), (47, 1), (48, 1), (49, 1)] (by kernel_rfl) (by kernel_rfl) (fun _ _ _ _ h => h) ?_
 have HS := hide HS5.out.drew
 generalize w5.drew = w6 at HS ⊢
 have s0 : _ = some (Value.int .i64 ((j + 1 : Nat) : Int)) := HS.out.cell 0 rfl 0
 have s1 : _ = some (Value.bool true) := HS.out.cell 0 rfl 1
 obtain ⟨b2, o2, he2, hb9, hc9⟩ := fd_at (row_rd HS.out (List.mem_cons_of_mem _ (List.mem_cons_of_mem _ hrow))) hp
 obtain ⟨p0, _, _, _⟩ := hc9 _ (Below.refl _ _)
 injection he2 with he2
 injection he2 with he2 he3
 subst he2 he3
 rw [hpl] at p0
 clear hc9 hp hpl
 go_wp2_with (first
  | (go_at_call 69; (with_reducible refine (fail_3 g HS.out.swap).mono ?_); rintro e w7 ⟨rfl, hS7⟩; have HS7 := hide hS7; clear hS7)
  | (refine wpT_nil ?_)   | ((with_reducible refine fromT_refl ?_); (try simp only [Act.put, nq1, nq2, nq3, nq4, nq5, nq6]))   | ((with_reducible refine fromT_mk (by assumption) ?_); (try simp only [Act.put, nq1, nq2, nq3, nq4, nq5, nq6]))   | (refine wpT_pure (v := ?_) rfl rfl ?_ ?_; rotate_left; (intro wx; go_simp; try go_bits) <;> (with_reducible rfl); (try simp only [Act.put, nq1, nq2, nq3, nq4, nq5, nq6]))   | (refine wpT_load (v := ?_) rfl rfl rfl ?_ ?_; rotate_left; (go_simp; try go_bits) <;> (with_reducible rfl); (try simp only [Act.put, nq1, nq2, nq3, nq4, nq5, nq6]))   | (refine wpT_read (v := ?_) rfl rfl ?_ ?_; rotate_left; (intro wx hx; go_simp; try go_bits) <;> (with_reducible rfl); (try simp only [Act.put, nq1, nq2, nq3, nq4, nq5, nq6]))   | (refine wpT_call rfl rfl ?_; intro K hK)   | (refine wpT_late rfl rfl ?_; intro K hK)   | (refine wpT_any rfl rfl ?_; intro K hK)   | (refine wpT_skip rfl rfl ?_; (try simp only [Act.put, nq1, nq2, nq3, nq4, nq5, nq6])))
 go_ret
 exact ⟨rfl, HS7.out.swap.tail⟩
theorem fits_n4 (KA : ByteArray) (nk kb : Nat) (g : Nat) (B : Option Addr) (m d k j : Nat) (xs : List FdL) (x : FdL) (hk : xs[k]? = some x) (hkm : k < m) (hj : x.f.num = j + 1) (hkb : kb = 50 ∨ kb = 51) (hix : j < nk → ∀ W, (Instr.index 9 (.string KA) (.int .i64 (j : Int))).run Tryz.prog W = .ok (.int .u8 (kb : Int)) W) (hjn : j < nk) (hw : x.f.whole = true) (p : FdL) (last : Nat) (k2 : Nat) (hk2 : k = k2 + 1) (hp : xs[k2]? = some p) (hpl : p.f.num = last) (hlt : last = j + 1) (hkk : kb = 50) (hrow : Chunk.row (.slice B m d) 102 4 m (cellsF xs) ∈ H) (hm : m ≤ 65536) (hnk : nk ≤ 100) (hsz : KA.size = nk) (hS : St w0 M w (.cells g #[.pointer none, .int .i64 0] 99 :: H)) :
  Calls Tryz.prog 67 #[.pointer (some ⟨g, 0, none⟩), .slice B m d, .int .i64 (k : Int), .string KA] w fun e w' => e = .returned (.bool false) ∧ St w0 M w' (.cells g #[.pointer none, .int .i64 3] 99 :: H) := by
 subst hk2
 obtain ⟨b, o, rfl, hb8, hc⟩ := fd_at (row_rd hS (List.mem_cons_of_mem _ hrow)) hk
 obtain ⟨k0, k1, k2', k3⟩ := hc _ (Below.refl _ _)
 obtain ⟨⟨num, whole, fn, fb⟩, X, xc⟩ := x
 replace hj : num = j + 1 := hj
 replace hw : whole = true := hw
 subst hj hw
 have t1 : _ = some (Value.int .i64 0) := hS.cell 0 rfl 1
 have kn : ((k2 : Int) + 1 : Int) < (m : Int) := by omega
 have HS := hide hS
 have d1 : decide ((nk : Int) < (j : Int) + 1) = false := by (simp) <;> omega
 have HIX := hix hjn
 have d30 : ((kb : Int) != 49) = true := by rcases hkb with rfl | rfl <;> rfl
 have jb : (j : Int) < 100 := by omega
 have z0 : decide ((0 : Int) < (k2 : Int) + 1) = true := by (simp) <;> omega
 have en : (k2 : Int) + 1 - 1 = (k2 : Int) := by omega
 have nn : (k2 : Int) < (m : Int) := by omega
 have hlb : (last : Int) < 1000 := by omega
 have e1 : decide ((j : Int) + 1 < (last : Int)) = false := by (simp) <;> omega
 have e2 : ((last : Int) == (j : Int) + 1) = true := by (simp) <;> omega
 have e2' : decide ((last : Int) = (j : Int) + 1) = true := by (simp) <;> omega
 have e3 : ((kb : Int) != 51) = true := by subst hkk; rfl
 clear hc hS hix hkb hkk hlt
 go_enter Tryz.func67, Tryz.ntmps67
 go_upto_region 2 with (refine wl_storeC rfl rfl (HS.out.alloc _ _) 0 rfl (vs := [.int .i64 ((j + 1 : Nat) : Int), .bool true, .int .u64 (fn : Int), .slice X fb.length xc]) szField6 (Nat.le_refl _) rfl rfl oneF ?_; intro w5 hS5; have HS5 := hide hS5; clear hS5)
 have t1 : _ = some (Value.int .i64 0) := HS5.out.cell 1 rfl 1
 go_upto_region 4 with fail
 refine wp_region_T [(0, 1), (1, 0), (2, 1), (3, 1), (4, 1), (5, 1), (6, 1), (7, 1), (8, 0), (9, 1), (10, 1), (11, 1), (12, 1), (13, 0), (14, 1), (15, 1), (16, 1), (17, 1), (18, 1), (19, 1), (20, 1), (21, 1), (22, 1), (23, 1), (24, 1), (25, 0), (26, 1), (27, 0), (28, 1), (29, 1), (30, 1), (31, 1), (32, 1), (33, 1), (34, 1), (35, 0), (36, 1), (37, 0), (38, 1), (39, 1), (40, 1), (41, 1), (42, 0), (43, 1), (44, 1), (45, 1), (46, 1), (47, 1), (48, 1), (49, 1)] (by kernel_rfl) (by kernel_rfl) (fun _ _ _ _ h => h) ?_
 have HS := hide HS5.out.drew
 generalize w5.drew = w6 at HS ⊢
 have s0 : _ = some (Value.int .i64 ((j + 1 : Nat) : Int)) := HS.out.cell 0 rfl 0
 have s1 : _ = some (Value.bool true) := HS.out.cell 0 rfl 1
 obtain ⟨b2, o2, he2, hb9, hc9⟩ := fd_at (row_rd HS.out (List.mem_cons_of_mem _ (List.mem_cons_of_mem _ hrow))) hp
 obtain ⟨p0, _, _, _⟩ := hc9 _ (Below.refl _ _)
 injection he2 with he2
 injection he2 with he2 he3
 subst he2 he3
 rw [hpl] at p0
 clear hc9 hp hpl
 go_wp2_with (first
  | (go_at_call 69; (with_reducible refine (fail_3 g HS.out.swap).mono ?_); rintro e w7 ⟨rfl, hS7⟩; have HS7 := hide hS7; clear hS7)
  | (refine wpT_nil ?_)   | ((with_reducible refine fromT_refl ?_); (try simp only [Act.put, nq1, nq2, nq3, nq4, nq5, nq6]))   | ((with_reducible refine fromT_mk (by assumption) ?_); (try simp only [Act.put, nq1, nq2, nq3, nq4, nq5, nq6]))   | (refine wpT_pure (v := ?_) rfl rfl ?_ ?_; rotate_left; (intro wx; go_simp; try go_bits) <;> (with_reducible rfl); (try simp only [Act.put, nq1, nq2, nq3, nq4, nq5, nq6]))   | (refine wpT_load (v := ?_) rfl rfl rfl ?_ ?_; rotate_left; (go_simp; try go_bits) <;> (with_reducible rfl); (try simp only [Act.put, nq1, nq2, nq3, nq4, nq5, nq6]))   | (refine wpT_read (v := ?_) rfl rfl ?_ ?_; rotate_left; (intro wx hx; go_simp; try go_bits) <;> (with_reducible rfl); (try simp only [Act.put, nq1, nq2, nq3, nq4, nq5, nq6]))   | (refine wpT_call rfl rfl ?_; intro K hK)   | (refine wpT_late rfl rfl ?_; intro K hK)   | (refine wpT_any rfl rfl ?_; intro K hK)   | (refine wpT_skip rfl rfl ?_; (try simp only [Act.put, nq1, nq2, nq3, nq4, nq5, nq6])))
 go_ret
 exact ⟨rfl, HS7.out.swap.tail⟩
end
end Go.Proofs.YtnohmgpmmhlloaaGreatDoor.S6

namespace Go.Proofs.YtnohmgpmmhlloaaGreatDoor.S6
set_option maxRecDepth 100000
open Go.RowKit
set_option linter.unusedSimpArgs false
theorem ix5 (j : Nat) (h : j < 5) (W : World) : (Instr.index 9 (.string ⟨#[50, 50, 50, 50, 50]⟩) (.int .i64 (j : Int))).run Tryz.prog W = .ok (.int .u8 ((50 : Nat) : Int)) W := by
 rcases (show j = 0 ∨ j = 1 ∨ j = 2 ∨ j = 3 ∨ j = 4 by omega) with rfl | rfl | rfl | rfl | rfl <;> kernel_rfl
def kb3 (j : Nat) : Nat := if j = 0 then 51 else 50
theorem ix3 (j : Nat) (h : j < 3) (W : World) : (Instr.index 9 (.string ⟨#[51, 50, 50]⟩) (.int .i64 (j : Int))).run Tryz.prog W = .ok (.int .u8 (kb3 j : Int)) W := by
 rcases (show j = 0 ∨ j = 1 ∨ j = 2 by omega) with rfl | rfl | rfl <;> kernel_rfl
theorem kb3_or (j : Nat) : kb3 j = 50 ∨ kb3 j = 51 := by
 unfold kb3
 split
 ·exact .inr rfl
 ·exact .inl rfl
section
variable {w0 w : World} {M : Nat → Prop} {H : List Chunk}
theorem fits5_yes (g : Nat) (B : Option Addr) (m d k last : Nat) (xs : List FdL) (x : FdL) (hk : xs[k]? = some x) (hkm : k < m) (h1 : 1 ≤ x.f.num) (h100 : x.f.num ≤ 100) (hl : (k = 0 ∧ last = 0) ∨ ∃ k2 p, k = k2 + 1 ∧ xs[k2]? = some p ∧ p.f.num = last) (hl9 : last ≤ 100) (hrow : Chunk.row (.slice B m d) 102 4 m (cellsF xs) ∈ H) (hm : m ≤ 65536) (hS : St w0 M w (.cells g #[.pointer none, .int .i64 0] 99 :: H)) (hw : x.f.whole = true) (h5 : x.f.num ≤ 5) (hlt : last < x.f.num) :
  Calls Tryz.prog 67 #[.pointer (some ⟨g, 0, none⟩), .slice B m d, .int .i64 (k : Int), .string ⟨#[50, 50, 50, 50, 50]⟩] w (fun e w' => e = .returned (.bool true) ∧ St w0 M w' (.cells g #[.pointer none, .int .i64 0] 99 :: H)) := by
 obtain ⟨j, hj⟩ : ∃ j, x.f.num = j + 1 := ⟨x.f.num - 1, by omega⟩
 rcases hl with ⟨h0, _⟩ | ⟨k2, p, hk2, hp, hpl⟩
 ·exact fits_a _ 5 50 g B m d k j xs x hk hkm hj (.inl rfl) (fun h W => ix5 j h W) (by omega) hw h0 hrow hm (by decide) rfl hS
 ·exact fits_b _ 5 50 g B m d k j xs x hk hkm hj (.inl rfl) (fun h W => ix5 j h W) (by omega) hw p last k2 hk2 hp hpl (by omega) hrow hm (by decide) rfl hS
theorem fits5_no (g : Nat) (B : Option Addr) (m d k last : Nat) (xs : List FdL) (x : FdL) (hk : xs[k]? = some x) (hkm : k < m) (h1 : 1 ≤ x.f.num) (h100 : x.f.num ≤ 100) (hl : (k = 0 ∧ last = 0) ∨ ∃ k2 p, k = k2 + 1 ∧ xs[k2]? = some p ∧ p.f.num = last) (hl9 : last ≤ 100) (hrow : Chunk.row (.slice B m d) 102 4 m (cellsF xs) ∈ H) (hm : m ≤ 65536) (hS : St w0 M w (.cells g #[.pointer none, .int .i64 0] 99 :: H)) (hno : ¬ (x.f.whole = true ∧ x.f.num ≤ 5 ∧ last < x.f.num)) :
  Calls Tryz.prog 67 #[.pointer (some ⟨g, 0, none⟩), .slice B m d, .int .i64 (k : Int), .string ⟨#[50, 50, 50, 50, 50]⟩] w (fun e w' => e = .returned (.bool false) ∧ St w0 M w' (.cells g #[.pointer none, .int .i64 3] 99 :: H)) := by
 obtain ⟨j, hj⟩ : ∃ j, x.f.num = j + 1 := ⟨x.f.num - 1, by omega⟩
 by_cases h5 : x.f.num ≤ 5
 ·cases hw : x.f.whole with
  | false => exact fits_n2 _ 5 50 g B m d k j xs x hk hkm hj (.inl rfl) (fun h W => ix5 j h W) (by omega) hw hrow hm (by decide) rfl hS
  | true =>
   rcases hl with ⟨h0, h00⟩ | ⟨k2, p, hk2, hp, hpl⟩
   ·exact absurd ⟨hw, h5, by omega⟩ hno
   ·by_cases hlt : last = j + 1
    ·exact fits_n4 _ 5 50 g B m d k j xs x hk hkm hj (.inl rfl) (fun h W => ix5 j h W) (by omega) hw p last k2 hk2 hp hpl hlt rfl hrow hm (by decide) rfl hS
    ·exact fits_n3 _ 5 50 g B m d k j xs x hk hkm hj (.inl rfl) (fun h W => ix5 j h W) (by omega) hw p last k2 hk2 hp hpl (by
      by_cases h : last < x.f.num
      ·exact absurd ⟨hw, h5, h⟩ hno
      ·omega) hl9 hrow hm (by decide) rfl hS
 ·exact fits_n1 _ 5 50 g B m d k j xs x hk hkm hj (by omega) (by omega) hrow hm (by decide) rfl hS
theorem fits3_yes (g : Nat) (B : Option Addr) (m d k last : Nat) (xs : List FdL) (x : FdL) (hk : xs[k]? = some x) (hkm : k < m) (h1 : 1 ≤ x.f.num) (h100 : x.f.num ≤ 100) (hl : (k = 0 ∧ last = 0) ∨ ∃ k2 p, k = k2 + 1 ∧ xs[k2]? = some p ∧ p.f.num = last) (hl9 : last ≤ 100) (hrow : Chunk.row (.slice B m d) 102 4 m (cellsF xs) ∈ H) (hm : m ≤ 65536) (hS : St w0 M w (.cells g #[.pointer none, .int .i64 0] 99 :: H)) (hno : ¬ (x.f.whole = false ∨ x.f.num < last ∨ (x.f.num = last ∧ x.f.num ≠ 1))) (h3 : x.f.num ≤ 3) :
  Calls Tryz.prog 67 #[.pointer (some ⟨g, 0, none⟩), .slice B m d, .int .i64 (k : Int), .string ⟨#[51, 50, 50]⟩] w (fun e w' => e = .returned (.bool true) ∧ St w0 M w' (.cells g #[.pointer none, .int .i64 0] 99 :: H)) := by
 obtain ⟨j, hj⟩ : ∃ j, x.f.num = j + 1 := ⟨x.f.num - 1, by omega⟩
 have hw : x.f.whole = true := by
  cases h : x.f.whole
  ·exact absurd (.inl h) hno
  ·rfl
 have hnl : ¬ x.f.num < last := fun h => hno (.inr (.inl h))
 rcases hl with ⟨h0, _⟩ | ⟨k2, p, hk2, hp, hpl⟩
 ·exact fits_a _ 3 (kb3 j) g B m d k j xs x hk hkm hj (kb3_or j) (fun h W => ix3 j h W) (by omega) hw h0 hrow hm (by decide) rfl hS
 ·by_cases he : x.f.num = last
  ·have h1' : x.f.num = 1 := by
    by_cases h : x.f.num = 1
    ·exact h
    ·exact absurd (.inr (.inr ⟨he, h⟩)) hno
   exact fits_c _ 3 (kb3 j) g B m d k j xs x hk hkm hj (kb3_or j) (fun h W => ix3 j h W) (by omega) hw p last k2 hk2 hp hpl (by omega) (by unfold kb3; rw [if_pos (by omega)]) hrow hm (by decide) rfl hS
  ·exact fits_b _ 3 (kb3 j) g B m d k j xs x hk hkm hj (kb3_or j) (fun h W => ix3 j h W) (by omega) hw p last k2 hk2 hp hpl (by omega) hrow hm (by decide) rfl hS
theorem fits3_no (g : Nat) (B : Option Addr) (m d k last : Nat) (xs : List FdL) (x : FdL) (hk : xs[k]? = some x) (hkm : k < m) (h1 : 1 ≤ x.f.num) (h100 : x.f.num ≤ 100) (hl : (k = 0 ∧ last = 0) ∨ ∃ k2 p, k = k2 + 1 ∧ xs[k2]? = some p ∧ p.f.num = last) (hl9 : last ≤ 100) (hrow : Chunk.row (.slice B m d) 102 4 m (cellsF xs) ∈ H) (hm : m ≤ 65536) (hS : St w0 M w (.cells g #[.pointer none, .int .i64 0] 99 :: H)) (hno : ¬ (¬ (x.f.whole = false ∨ x.f.num < last ∨ (x.f.num = last ∧ x.f.num ≠ 1)) ∧ x.f.num ≤ 3)) :
  Calls Tryz.prog 67 #[.pointer (some ⟨g, 0, none⟩), .slice B m d, .int .i64 (k : Int), .string ⟨#[51, 50, 50]⟩] w (fun e w' => e = .returned (.bool false) ∧ St w0 M w' (.cells g #[.pointer none, .int .i64 3] 99 :: H)) := by
 obtain ⟨j, hj⟩ : ∃ j, x.f.num = j + 1 := ⟨x.f.num - 1, by omega⟩
 by_cases h3 : x.f.num ≤ 3
 ·have hbad : x.f.whole = false ∨ x.f.num < last ∨ (x.f.num = last ∧ x.f.num ≠ 1) := Classical.byContradiction fun h => hno ⟨h, h3⟩
  cases hw : x.f.whole with
  | false => exact fits_n2 _ 3 (kb3 j) g B m d k j xs x hk hkm hj (kb3_or j) (fun h W => ix3 j h W) (by omega) hw hrow hm (by decide) rfl hS
  | true =>
   rcases hl with ⟨h0, h00⟩ | ⟨k2, p, hk2, hp, hpl⟩
   ·rcases hbad with h | h | h
    ·rw [hw] at h; cases h
    ·omega
    ·omega
   ·by_cases hlt : last = j + 1
    ·have hne : x.f.num ≠ 1 := by
      rcases hbad with h | h | h
      ·rw [hw] at h; cases h
      ·omega
      ·exact h.2
     exact fits_n4 _ 3 (kb3 j) g B m d k j xs x hk hkm hj (kb3_or j) (fun h W => ix3 j h W) (by omega) hw p last k2 hk2 hp hpl hlt (by unfold kb3; rw [if_neg (by omega)]) hrow hm (by decide) rfl hS
    ·exact fits_n3 _ 3 (kb3 j) g B m d k j xs x hk hkm hj (kb3_or j) (fun h W => ix3 j h W) (by omega) hw p last k2 hk2 hp hpl (by
      rcases hbad with h | h | h
      ·rw [hw] at h; cases h
      ·omega
      ·omega) hl9 hrow hm (by decide) rfl hS
 ·exact fits_n1 _ 3 (kb3 j) g B m d k j xs x hk hkm hj (by omega) (by omega) hrow hm (by decide) rfl hS
end
end Go.Proofs.YtnohmgpmmhlloaaGreatDoor.S6
