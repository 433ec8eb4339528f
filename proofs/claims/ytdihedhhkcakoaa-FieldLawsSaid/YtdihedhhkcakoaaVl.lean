/-
  The walk of FieldLaws.
-/
import Derived.Test.YtdihedhhkcakoaaFm
namespace Go.Proofs.Ytdihedhhkcakoaa
open Go.RowKit
set_option linter.unusedSimpArgs false

set_option maxRecDepth 100000 in
set_option maxHeartbeats 1600000 in
theorem fieldLaws_walk (A1 A2 A3 : Option Addr) (q1 q2 q3 : Nat) (l1 l2 l3 : List UInt8) (w : World) (hr1 : Rd w (.slice A1 l1.length q1) 1 l1.length (bvs l1)) (hr2 : Rd w (.slice A2 l2.length q2) 1 l2.length (bvs l2)) (hr3 : Rd w (.slice A3 l3.length q3) 1 l3.length (bvs l3)) :
    Calls Try.prog 7 #[.slice A1 l1.length q1, .slice A2 l2.length q2, .slice A3 l3.length q3] w fun e w' => e = .returned (.bool true) ∧ Below w.heap.size w w' := by
  have HR1 := hide hr1
  have HR2 := hide hr2
  have HR3 := hide hr3
  obtain ⟨n1, hn1⟩ : ∃ n, n = l1.length := ⟨_, rfl⟩
  rw [← hn1] at HR1 ⊢
  obtain ⟨n2, hn2⟩ : ∃ n, n = l2.length := ⟨_, rfl⟩
  rw [← hn2] at HR2 ⊢
  obtain ⟨n3, hn3⟩ : ∃ n, n = l3.length := ⟨_, rfl⟩
  rw [← hn3] at HR3 ⊢
  have HL1 := hide hn1.symm
  have HL2 := hide hn2.symm
  have HL3 := hide hn3.symm
  clear hr1 hn1 hr2 hn2 hr3 hn3
  by_cases h1 : n1 > 100
  · have d1 : decide (100 < (n1 : Int)) = true := by simp; omega
    clear h1
    go_enter Try.func7, Try.ntmps7
    go_wp2_with (go_at_call 9; refine (awake_any _).mono ?_; rintro e w1 ⟨rfl, hb1⟩)
    go_ret
    exact ⟨rfl, hb1⟩
  · have d1 : decide (100 < (n1 : Int)) = false := by simp; omega
    have k1 := hide h1
    by_cases h2 : n2 > 100
    · have d2 : decide (100 < (n2 : Int)) = true := by simp; omega
      clear h1 h2
      go_enter Try.func7, Try.ntmps7
      go_wp2_with (go_at_call 9; refine (awake_any _).mono ?_; rintro e w1 ⟨rfl, hb1⟩)
      go_ret
      exact ⟨rfl, hb1⟩
    · have d2 : decide (100 < (n2 : Int)) = false := by simp; omega
      have k2 := hide h2
      by_cases h3 : n3 > 100
      · have d3 : decide (100 < (n3 : Int)) = true := by simp; omega
        clear h1 h2 h3
        go_enter Try.func7, Try.ntmps7
        go_wp2_with (go_at_call 9; refine (awake_any _).mono ?_; rintro e w1 ⟨rfl, hb1⟩)
        go_ret
        exact ⟨rfl, hb1⟩
      · have d3 : decide (100 < (n3 : Int)) = false := by simp; omega
        have k3 := hide h3
        clear h1 h2 h3
        go_enter Try.func7, Try.ntmps7
        go_upto_region 5 with (first
          | (have _q := hb3; go_at_call 14; refine (small1 _).mono ?_; rintro r w4 ⟨a4, b4, c4, e4, f4, hv4, hd4, rfl, hb4⟩)
          | (have _q := hb2; go_at_call 10; refine (fromE HL3.out (by have := k3.out; omega) ((HR3.out.below hb1).below hb2)).mono ?_; rintro r w3 ⟨a3, b3, c3, e3, f3, hv3, hd3, rfl, hb3⟩)
          | (have _q := hb1; go_at_call 10; refine (fromE HL2.out (by have := k2.out; omega) (HR2.out.below hb1)).mono ?_; rintro r w2 ⟨a2, b2, c2, e2, f2, hv2, hd2, rfl, hb2⟩)
          | (go_at_call 10; refine (fromE HL1.out (by have := k1.out; omega) HR1.out).mono ?_; rintro r w1 ⟨a1, b1, c1, e1, f1, hv1, hd1, rfl, hb1⟩))
        have wzS := (((((((((St.init w NoB).call hb1).call hb2).call hb3).alloc #[.int .u64 (a1 : Int), .int .u64 (b1 : Int), .int .u64 (c1 : Int), .int .u64 (e1 : Int), .int .u64 (f1 : Int)] 27).alloc #[.int .u64 (a2 : Int), .int .u64 (b2 : Int), .int .u64 (c2 : Int), .int .u64 (e2 : Int), .int .u64 (f2 : Int)] 27).alloc #[.int .u64 (a3 : Int), .int .u64 (b3 : Int), .int .u64 (c3 : Int), .int .u64 (e3 : Int), .int .u64 (f3 : Int)] 27).call hb4).alloc #[.int .u64 (a4 : Int), .int .u64 (b4 : Int), .int .u64 (c4 : Int), .int .u64 (e4 : Int), .int .u64 (f4 : Int)] 27)
        try simp only [size_alloc1] at wzS
        generalize (w4.alloc (.cells #[.int .u64 (a4 : Int), .int .u64 (b4 : Int), .int .u64 (c4 : Int), .int .u64 (e4 : Int), .int .u64 (f4 : Int)] 27)) = wz at wzS ⊢
        have wzH := hide wzS
        clear wzS
        have wzD := hide wzH.out.drew
        have p7_0 : ∀ z, From wz.drew z → z.cell? ⟨w3.heap.size, 0, none⟩ = some (.int .u64 (a1 : Int)) := fun z hz => by rw [hz.cell (p := ⟨w3.heap.size, 0, none⟩) (Chunk.lt (wzD.out.sat 3 _ rfl) rfl)]; exact wzD.out.cell 3 rfl 0
        have p7_1 : ∀ z, From wz.drew z → z.cell? ⟨w3.heap.size, 1, none⟩ = some (.int .u64 (b1 : Int)) := fun z hz => by rw [hz.cell (p := ⟨w3.heap.size, 1, none⟩) (Chunk.lt (wzD.out.sat 3 _ rfl) rfl)]; exact wzD.out.cell 3 rfl 1
        have p7_2 : ∀ z, From wz.drew z → z.cell? ⟨w3.heap.size, 2, none⟩ = some (.int .u64 (c1 : Int)) := fun z hz => by rw [hz.cell (p := ⟨w3.heap.size, 2, none⟩) (Chunk.lt (wzD.out.sat 3 _ rfl) rfl)]; exact wzD.out.cell 3 rfl 2
        have p7_3 : ∀ z, From wz.drew z → z.cell? ⟨w3.heap.size, 3, none⟩ = some (.int .u64 (e1 : Int)) := fun z hz => by rw [hz.cell (p := ⟨w3.heap.size, 3, none⟩) (Chunk.lt (wzD.out.sat 3 _ rfl) rfl)]; exact wzD.out.cell 3 rfl 3
        have p7_4 : ∀ z, From wz.drew z → z.cell? ⟨w3.heap.size, 4, none⟩ = some (.int .u64 (f1 : Int)) := fun z hz => by rw [hz.cell (p := ⟨w3.heap.size, 4, none⟩) (Chunk.lt (wzD.out.sat 3 _ rfl) rfl)]; exact wzD.out.cell 3 rfl 4
        have p8_0 : ∀ z, From wz.drew z → z.cell? ⟨w3.heap.size + 1, 0, none⟩ = some (.int .u64 (a2 : Int)) := fun z hz => by rw [hz.cell (p := ⟨w3.heap.size + 1, 0, none⟩) (Chunk.lt (wzD.out.sat 2 _ rfl) rfl)]; exact wzD.out.cell 2 rfl 0
        have p8_1 : ∀ z, From wz.drew z → z.cell? ⟨w3.heap.size + 1, 1, none⟩ = some (.int .u64 (b2 : Int)) := fun z hz => by rw [hz.cell (p := ⟨w3.heap.size + 1, 1, none⟩) (Chunk.lt (wzD.out.sat 2 _ rfl) rfl)]; exact wzD.out.cell 2 rfl 1
        have p8_2 : ∀ z, From wz.drew z → z.cell? ⟨w3.heap.size + 1, 2, none⟩ = some (.int .u64 (c2 : Int)) := fun z hz => by rw [hz.cell (p := ⟨w3.heap.size + 1, 2, none⟩) (Chunk.lt (wzD.out.sat 2 _ rfl) rfl)]; exact wzD.out.cell 2 rfl 2
        have p8_3 : ∀ z, From wz.drew z → z.cell? ⟨w3.heap.size + 1, 3, none⟩ = some (.int .u64 (e2 : Int)) := fun z hz => by rw [hz.cell (p := ⟨w3.heap.size + 1, 3, none⟩) (Chunk.lt (wzD.out.sat 2 _ rfl) rfl)]; exact wzD.out.cell 2 rfl 3
        have p8_4 : ∀ z, From wz.drew z → z.cell? ⟨w3.heap.size + 1, 4, none⟩ = some (.int .u64 (f2 : Int)) := fun z hz => by rw [hz.cell (p := ⟨w3.heap.size + 1, 4, none⟩) (Chunk.lt (wzD.out.sat 2 _ rfl) rfl)]; exact wzD.out.cell 2 rfl 4
        have p9_0 : ∀ z, From wz.drew z → z.cell? ⟨w3.heap.size + 1 + 1, 0, none⟩ = some (.int .u64 (a3 : Int)) := fun z hz => by rw [hz.cell (p := ⟨w3.heap.size + 1 + 1, 0, none⟩) (Chunk.lt (wzD.out.sat 1 _ rfl) rfl)]; exact wzD.out.cell 1 rfl 0
        have p9_1 : ∀ z, From wz.drew z → z.cell? ⟨w3.heap.size + 1 + 1, 1, none⟩ = some (.int .u64 (b3 : Int)) := fun z hz => by rw [hz.cell (p := ⟨w3.heap.size + 1 + 1, 1, none⟩) (Chunk.lt (wzD.out.sat 1 _ rfl) rfl)]; exact wzD.out.cell 1 rfl 1
        have p9_2 : ∀ z, From wz.drew z → z.cell? ⟨w3.heap.size + 1 + 1, 2, none⟩ = some (.int .u64 (c3 : Int)) := fun z hz => by rw [hz.cell (p := ⟨w3.heap.size + 1 + 1, 2, none⟩) (Chunk.lt (wzD.out.sat 1 _ rfl) rfl)]; exact wzD.out.cell 1 rfl 2
        have p9_3 : ∀ z, From wz.drew z → z.cell? ⟨w3.heap.size + 1 + 1, 3, none⟩ = some (.int .u64 (e3 : Int)) := fun z hz => by rw [hz.cell (p := ⟨w3.heap.size + 1 + 1, 3, none⟩) (Chunk.lt (wzD.out.sat 1 _ rfl) rfl)]; exact wzD.out.cell 1 rfl 3
        have p9_4 : ∀ z, From wz.drew z → z.cell? ⟨w3.heap.size + 1 + 1, 4, none⟩ = some (.int .u64 (f3 : Int)) := fun z hz => by rw [hz.cell (p := ⟨w3.heap.size + 1 + 1, 4, none⟩) (Chunk.lt (wzD.out.sat 1 _ rfl) rfl)]; exact wzD.out.cell 1 rfl 4
        refine wp_region_F (by kernel_rfl) ?_
        (refine wpG_take (i := 0) (v := ?_) rfl (by kernel_rfl) (by kernel_rfl) (by kernel_rfl) (fun _ _ _ h => h) ((From.refl wz.drew)) (Or.inl ⟨by rfl, ?_⟩) ?_; rotate_left; (intro wx hx; go_simp) <;> (with_reducible rfl); (try simp only [Act.put, List.setIfInBounds_toArray, List.set_cons_zero, List.set_cons_succ, List.getElem_toArray, List.getElem_cons_succ, List.getElem_cons_zero])); (refine wpG_take (i := 1) (v := ?_) rfl (by kernel_rfl) (by kernel_rfl) (by kernel_rfl) (fun _ _ _ h => h) ((From.refl wz.drew)) (Or.inl ⟨by rfl, ?_⟩) ?_; rotate_left; (intro wx hx; go_simp) <;> (with_reducible rfl); (try simp only [Act.put, List.setIfInBounds_toArray, List.set_cons_zero, List.set_cons_succ, List.getElem_toArray, List.getElem_cons_succ, List.getElem_cons_zero])); (refine wpG_take (i := 3) (v := ?_) rfl (by kernel_rfl) (by kernel_rfl) (by kernel_rfl) (fun _ _ _ h => h) ((From.refl wz.drew)) (Or.inl ⟨by rfl, ?_⟩) ?_; rotate_left; (intro wx hx; go_simp) <;> (with_reducible rfl); (try simp only [Act.put, List.setIfInBounds_toArray, List.set_cons_zero, List.set_cons_succ, List.getElem_toArray, List.getElem_cons_succ, List.getElem_cons_zero])); (refine wpG_take (i := 4) (v := ?_) rfl (by kernel_rfl) (by kernel_rfl) (by kernel_rfl) (fun _ _ _ h => h) ((From.refl wz.drew)) (Or.inl ⟨by rfl, ?_⟩) ?_; rotate_left; (intro wx hx; go_simp) <;> (with_reducible rfl); (try simp only [Act.put, List.setIfInBounds_toArray, List.set_cons_zero, List.set_cons_succ, List.getElem_toArray, List.getElem_cons_succ, List.getElem_cons_zero]))
        (refine wpG_one (i := 2) (by kernel_rfl) rfl ?_; intro K hK; (try simp only [Act.put, List.setIfInBounds_toArray, List.set_cons_zero, List.set_cons_succ, List.getElem_toArray, List.getElem_cons_succ, List.getElem_cons_zero]))
        refine step_call rfl rfl enEAdd rfl (addE hv1 hd1 hv2 hd2) ?_
        rintro r w5 ⟨a5, b5, c5, e5, f5, hv5, hd5, rfl, hb5⟩
        have F5 : From wz.drew w5 := bnx (From.refl wz.drew) hb5
        refine ⟨_, rfl, hK (From wz.drew) _ _ (fun _ h => h) F5 ?_⟩
        clear hK K hb5
        (try simp only [Act.put, List.setIfInBounds_toArray, List.set_cons_zero, List.set_cons_succ, List.getElem_toArray, List.getElem_cons_succ, List.getElem_cons_zero])
        (refine wpG_one (i := 5) (by kernel_rfl) rfl ?_; intro K hK; (try simp only [Act.put, List.setIfInBounds_toArray, List.set_cons_zero, List.set_cons_succ, List.getElem_toArray, List.getElem_cons_succ, List.getElem_cons_zero]))
        refine step_call rfl rfl enEAdd rfl (addE hv2 hd2 hv1 hd1) ?_
        rintro r w6 ⟨a6, b6, c6, e6, f6, hv6, hd6, rfl, hb6⟩
        have F6 : From wz.drew w6 := bnx F5 hb6
        refine ⟨_, rfl, hK (From wz.drew) _ _ (fun _ h => h) F6 ?_⟩
        clear hK K hb6
        (try simp only [Act.put, List.setIfInBounds_toArray, List.set_cons_zero, List.set_cons_succ, List.getElem_toArray, List.getElem_cons_succ, List.getElem_cons_zero])
        (refine wpG_one (i := 6) (by kernel_rfl) rfl ?_; intro K hK; (try simp only [Act.put, List.setIfInBounds_toArray, List.set_cons_zero, List.set_cons_succ, List.getElem_toArray, List.getElem_cons_succ, List.getElem_cons_zero]))
        refine step_call rfl rfl enSame rfl (sameT hv5 hd5 hv6 hd6 (fl1 _ _)) ?_
        rintro r w7 ⟨rfl, hb7⟩
        have F7 : From wz.drew w7 := bnx F6 hb7
        refine ⟨_, rfl, hK (From wz.drew) _ _ (fun _ h => h) F7 ?_⟩
        clear hK K hb7
        (try simp only [Act.put, List.setIfInBounds_toArray, List.set_cons_zero, List.set_cons_succ, List.getElem_toArray, List.getElem_cons_succ, List.getElem_cons_zero])
        (refine wpG_take (i := 7) (v := ?_) rfl (by kernel_rfl) (by kernel_rfl) (by kernel_rfl) (fun _ _ _ h => h) (F7) (Or.inl ⟨by rfl, ?_⟩) ?_; rotate_left; (intro wx hx; go_simp) <;> (with_reducible rfl); (try simp only [Act.put, List.setIfInBounds_toArray, List.set_cons_zero, List.set_cons_succ, List.getElem_toArray, List.getElem_cons_succ, List.getElem_cons_zero])); (refine wpG_take (i := 8) (v := ?_) rfl (by kernel_rfl) (by kernel_rfl) (by kernel_rfl) (fun _ _ _ h => h) (F7) (Or.inl ⟨by rfl, ?_⟩) ?_; rotate_left; (intro wx hx; go_simp) <;> (with_reducible rfl); (try simp only [Act.put, List.setIfInBounds_toArray, List.set_cons_zero, List.set_cons_succ, List.getElem_toArray, List.getElem_cons_succ, List.getElem_cons_zero])); (refine wpG_take (i := 9) (v := ?_) rfl (by kernel_rfl) (by kernel_rfl) (by kernel_rfl) (fun _ _ _ h => h) (F7) (Or.inl ⟨by rfl, ?_⟩) ?_; rotate_left; (intro wx hx; go_simp) <;> (with_reducible rfl); (try simp only [Act.put, List.setIfInBounds_toArray, List.set_cons_zero, List.set_cons_succ, List.getElem_toArray, List.getElem_cons_succ, List.getElem_cons_zero])); (refine wpG_take (i := 10) (v := ?_) rfl (by kernel_rfl) (by kernel_rfl) (by kernel_rfl) (fun _ _ _ h => h) (F7) (Or.inl ⟨by rfl, ?_⟩) ?_; rotate_left; (intro wx hx; go_simp) <;> (with_reducible rfl); (try simp only [Act.put, List.setIfInBounds_toArray, List.set_cons_zero, List.set_cons_succ, List.getElem_toArray, List.getElem_cons_succ, List.getElem_cons_zero])); (refine wpG_take (i := 12) (v := ?_) rfl (by kernel_rfl) (by kernel_rfl) (by kernel_rfl) (fun _ _ _ h => h) (F7) (Or.inl ⟨by rfl, ?_⟩) ?_; rotate_left; (intro wx hx; go_simp) <;> (with_reducible rfl); (try simp only [Act.put, List.setIfInBounds_toArray, List.set_cons_zero, List.set_cons_succ, List.getElem_toArray, List.getElem_cons_succ, List.getElem_cons_zero])); (refine wpG_take (i := 13) (v := ?_) rfl (by kernel_rfl) (by kernel_rfl) (by kernel_rfl) (fun _ _ _ h => h) (F7) (Or.inl ⟨by rfl, ?_⟩) ?_; rotate_left; (intro wx hx; go_simp) <;> (with_reducible rfl); (try simp only [Act.put, List.setIfInBounds_toArray, List.set_cons_zero, List.set_cons_succ, List.getElem_toArray, List.getElem_cons_succ, List.getElem_cons_zero]))
        (refine wpG_one (i := 11) (by kernel_rfl) rfl ?_; intro K hK; (try simp only [Act.put, List.setIfInBounds_toArray, List.set_cons_zero, List.set_cons_succ, List.getElem_toArray, List.getElem_cons_succ, List.getElem_cons_zero]))
        refine step_call rfl rfl enEMul rfl (mulE hv1 hd1 hv2 hd2) ?_
        rintro r w8 ⟨a8, b8, c8, e8, f8, hv8, hd8, rfl, hb8⟩
        have F8 : From wz.drew w8 := bnx F7 hb8
        refine ⟨_, rfl, hK (From wz.drew) _ _ (fun _ h => h) F8 ?_⟩
        clear hK K hb8
        (try simp only [Act.put, List.setIfInBounds_toArray, List.set_cons_zero, List.set_cons_succ, List.getElem_toArray, List.getElem_cons_succ, List.getElem_cons_zero])
        (refine wpG_one (i := 14) (by kernel_rfl) rfl ?_; intro K hK; (try simp only [Act.put, List.setIfInBounds_toArray, List.set_cons_zero, List.set_cons_succ, List.getElem_toArray, List.getElem_cons_succ, List.getElem_cons_zero]))
        refine step_call rfl rfl enEMul rfl (mulE hv2 hd2 hv1 hd1) ?_
        rintro r w9 ⟨a9, b9, c9, e9, f9, hv9, hd9, rfl, hb9⟩
        have F9 : From wz.drew w9 := bnx F8 hb9
        refine ⟨_, rfl, hK (From wz.drew) _ _ (fun _ h => h) F9 ?_⟩
        clear hK K hb9
        (try simp only [Act.put, List.setIfInBounds_toArray, List.set_cons_zero, List.set_cons_succ, List.getElem_toArray, List.getElem_cons_succ, List.getElem_cons_zero])
        (refine wpG_one (i := 15) (by kernel_rfl) rfl ?_; intro K hK; (try simp only [Act.put, List.setIfInBounds_toArray, List.set_cons_zero, List.set_cons_succ, List.getElem_toArray, List.getElem_cons_succ, List.getElem_cons_zero]))
        refine step_call rfl rfl enSame rfl (sameT hv8 hd8 hv9 hd9 (fl2 _ _)) ?_
        rintro r w10 ⟨rfl, hb10⟩
        have F10 : From wz.drew w10 := bnx F9 hb10
        refine ⟨_, rfl, hK (From wz.drew) _ _ (fun _ h => h) F10 ?_⟩
        clear hK K hb10
        (try simp only [Act.put, List.setIfInBounds_toArray, List.set_cons_zero, List.set_cons_succ, List.getElem_toArray, List.getElem_cons_succ, List.getElem_cons_zero])
        (refine wpG_take (i := 16) (v := ?_) rfl (by kernel_rfl) (by kernel_rfl) (by kernel_rfl) (fun _ _ _ h => h) (F10) (Or.inl ⟨by rfl, ?_⟩) ?_; rotate_left; (intro wx hx; go_simp) <;> (with_reducible rfl); (try simp only [Act.put, List.setIfInBounds_toArray, List.set_cons_zero, List.set_cons_succ, List.getElem_toArray, List.getElem_cons_succ, List.getElem_cons_zero])); (refine wpG_take (i := 17) (v := ?_) rfl (by kernel_rfl) (by kernel_rfl) (by kernel_rfl) (fun _ _ _ h => h) (F10) (Or.inl ⟨by rfl, ?_⟩) ?_; rotate_left; (intro wx hx; go_simp) <;> (with_reducible rfl); (try simp only [Act.put, List.setIfInBounds_toArray, List.set_cons_zero, List.set_cons_succ, List.getElem_toArray, List.getElem_cons_succ, List.getElem_cons_zero])); (refine wpG_take (i := 18) (v := ?_) rfl (by kernel_rfl) (by kernel_rfl) (by kernel_rfl) (fun _ _ _ h => h) (F10) (Or.inl ⟨by rfl, ?_⟩) ?_; rotate_left; (intro wx hx; go_simp) <;> (with_reducible rfl); (try simp only [Act.put, List.setIfInBounds_toArray, List.set_cons_zero, List.set_cons_succ, List.getElem_toArray, List.getElem_cons_succ, List.getElem_cons_zero])); (refine wpG_take (i := 19) (v := ?_) rfl (by kernel_rfl) (by kernel_rfl) (by kernel_rfl) (fun _ _ _ h => h) (F10) (Or.inl ⟨by rfl, ?_⟩) ?_; rotate_left; (intro wx hx; go_simp) <;> (with_reducible rfl); (try simp only [Act.put, List.setIfInBounds_toArray, List.set_cons_zero, List.set_cons_succ, List.getElem_toArray, List.getElem_cons_succ, List.getElem_cons_zero])); (refine wpG_take (i := 20) (v := ?_) rfl (by kernel_rfl) (by kernel_rfl) (by kernel_rfl) (fun _ _ _ h => h) (F10) (Or.inl ⟨by rfl, ?_⟩) ?_; rotate_left; (intro wx hx; go_simp) <;> (with_reducible rfl); (try simp only [Act.put, List.setIfInBounds_toArray, List.set_cons_zero, List.set_cons_succ, List.getElem_toArray, List.getElem_cons_succ, List.getElem_cons_zero])); (refine wpG_take (i := 22) (v := ?_) rfl (by kernel_rfl) (by kernel_rfl) (by kernel_rfl) (fun _ _ _ h => h) (F10) (Or.inl ⟨by rfl, ?_⟩) ?_; rotate_left; (intro wx hx; go_simp) <;> (with_reducible rfl); (try simp only [Act.put, List.setIfInBounds_toArray, List.set_cons_zero, List.set_cons_succ, List.getElem_toArray, List.getElem_cons_succ, List.getElem_cons_zero])); (refine wpG_take (i := 24) (v := ?_) rfl (by kernel_rfl) (by kernel_rfl) (by kernel_rfl) (fun _ _ _ h => h) (F10) (Or.inl ⟨by rfl, ?_⟩) ?_; rotate_left; (intro wx hx; go_simp) <;> (with_reducible rfl); (try simp only [Act.put, List.setIfInBounds_toArray, List.set_cons_zero, List.set_cons_succ, List.getElem_toArray, List.getElem_cons_succ, List.getElem_cons_zero])); (refine wpG_take (i := 25) (v := ?_) rfl (by kernel_rfl) (by kernel_rfl) (by kernel_rfl) (fun _ _ _ h => h) (F10) (Or.inl ⟨by rfl, ?_⟩) ?_; rotate_left; (intro wx hx; go_simp) <;> (with_reducible rfl); (try simp only [Act.put, List.setIfInBounds_toArray, List.set_cons_zero, List.set_cons_succ, List.getElem_toArray, List.getElem_cons_succ, List.getElem_cons_zero])); (refine wpG_take (i := 26) (v := ?_) rfl (by kernel_rfl) (by kernel_rfl) (by kernel_rfl) (fun _ _ _ h => h) (F10) (Or.inl ⟨by rfl, ?_⟩) ?_; rotate_left; (intro wx hx; go_simp) <;> (with_reducible rfl); (try simp only [Act.put, List.setIfInBounds_toArray, List.set_cons_zero, List.set_cons_succ, List.getElem_toArray, List.getElem_cons_succ, List.getElem_cons_zero]))
        (refine wpG_one (i := 21) (by kernel_rfl) rfl ?_; intro K hK; (try simp only [Act.put, List.setIfInBounds_toArray, List.set_cons_zero, List.set_cons_succ, List.getElem_toArray, List.getElem_cons_succ, List.getElem_cons_zero]))
        refine step_call rfl rfl enEAdd rfl (addE hv1 hd1 hv2 hd2) ?_
        rintro r w11 ⟨a11, b11, c11, e11, f11, hv11, hd11, rfl, hb11⟩
        have F11 : From wz.drew w11 := bnx F10 hb11
        refine ⟨_, rfl, hK (From wz.drew) _ _ (fun _ h => h) F11 ?_⟩
        clear hK K hb11
        (try simp only [Act.put, List.setIfInBounds_toArray, List.set_cons_zero, List.set_cons_succ, List.getElem_toArray, List.getElem_cons_succ, List.getElem_cons_zero])
        (refine wpG_one (i := 23) (by kernel_rfl) rfl ?_; intro K hK; (try simp only [Act.put, List.setIfInBounds_toArray, List.set_cons_zero, List.set_cons_succ, List.getElem_toArray, List.getElem_cons_succ, List.getElem_cons_zero]))
        refine step_call rfl rfl enEAdd rfl (addE hv11 hd11 hv3 hd3) ?_
        rintro r w12 ⟨a12, b12, c12, e12, f12, hv12, hd12, rfl, hb12⟩
        have F12 : From wz.drew w12 := bnx F11 hb12
        refine ⟨_, rfl, hK (From wz.drew) _ _ (fun _ h => h) F12 ?_⟩
        clear hK K hb12
        (try simp only [Act.put, List.setIfInBounds_toArray, List.set_cons_zero, List.set_cons_succ, List.getElem_toArray, List.getElem_cons_succ, List.getElem_cons_zero])
        (refine wpG_one (i := 27) (by kernel_rfl) rfl ?_; intro K hK; (try simp only [Act.put, List.setIfInBounds_toArray, List.set_cons_zero, List.set_cons_succ, List.getElem_toArray, List.getElem_cons_succ, List.getElem_cons_zero]))
        refine step_call rfl rfl enEAdd rfl (addE hv2 hd2 hv3 hd3) ?_
        rintro r w13 ⟨a13, b13, c13, e13, f13, hv13, hd13, rfl, hb13⟩
        have F13 : From wz.drew w13 := bnx F12 hb13
        refine ⟨_, rfl, hK (From wz.drew) _ _ (fun _ h => h) F13 ?_⟩
        clear hK K hb13
        (try simp only [Act.put, List.setIfInBounds_toArray, List.set_cons_zero, List.set_cons_succ, List.getElem_toArray, List.getElem_cons_succ, List.getElem_cons_zero])
        (refine wpG_one (i := 28) (by kernel_rfl) rfl ?_; intro K hK; (try simp only [Act.put, List.setIfInBounds_toArray, List.set_cons_zero, List.set_cons_succ, List.getElem_toArray, List.getElem_cons_succ, List.getElem_cons_zero]))
        refine step_call rfl rfl enEAdd rfl (addE hv1 hd1 hv13 hd13) ?_
        rintro r w14 ⟨a14, b14, c14, e14, f14, hv14, hd14, rfl, hb14⟩
        have F14 : From wz.drew w14 := bnx F13 hb14
        refine ⟨_, rfl, hK (From wz.drew) _ _ (fun _ h => h) F14 ?_⟩
        clear hK K hb14
        (try simp only [Act.put, List.setIfInBounds_toArray, List.set_cons_zero, List.set_cons_succ, List.getElem_toArray, List.getElem_cons_succ, List.getElem_cons_zero])
        (refine wpG_one (i := 29) (by kernel_rfl) rfl ?_; intro K hK; (try simp only [Act.put, List.setIfInBounds_toArray, List.set_cons_zero, List.set_cons_succ, List.getElem_toArray, List.getElem_cons_succ, List.getElem_cons_zero]))
        refine step_call rfl rfl enSame rfl (sameT hv12 hd12 hv14 hd14 (fl3 _ _ _)) ?_
        rintro r w15 ⟨rfl, hb15⟩
        have F15 : From wz.drew w15 := bnx F14 hb15
        refine ⟨_, rfl, hK (From wz.drew) _ _ (fun _ h => h) F15 ?_⟩
        clear hK K hb15
        (try simp only [Act.put, List.setIfInBounds_toArray, List.set_cons_zero, List.set_cons_succ, List.getElem_toArray, List.getElem_cons_succ, List.getElem_cons_zero])
        (refine wpG_take (i := 30) (v := ?_) rfl (by kernel_rfl) (by kernel_rfl) (by kernel_rfl) (fun _ _ _ h => h) (F15) (Or.inl ⟨by rfl, ?_⟩) ?_; rotate_left; (intro wx hx; go_simp) <;> (with_reducible rfl); (try simp only [Act.put, List.setIfInBounds_toArray, List.set_cons_zero, List.set_cons_succ, List.getElem_toArray, List.getElem_cons_succ, List.getElem_cons_zero])); (refine wpG_take (i := 31) (v := ?_) rfl (by kernel_rfl) (by kernel_rfl) (by kernel_rfl) (fun _ _ _ h => h) (F15) (Or.inl ⟨by rfl, ?_⟩) ?_; rotate_left; (intro wx hx; go_simp) <;> (with_reducible rfl); (try simp only [Act.put, List.setIfInBounds_toArray, List.set_cons_zero, List.set_cons_succ, List.getElem_toArray, List.getElem_cons_succ, List.getElem_cons_zero])); (refine wpG_take (i := 32) (v := ?_) rfl (by kernel_rfl) (by kernel_rfl) (by kernel_rfl) (fun _ _ _ h => h) (F15) (Or.inl ⟨by rfl, ?_⟩) ?_; rotate_left; (intro wx hx; go_simp) <;> (with_reducible rfl); (try simp only [Act.put, List.setIfInBounds_toArray, List.set_cons_zero, List.set_cons_succ, List.getElem_toArray, List.getElem_cons_succ, List.getElem_cons_zero])); (refine wpG_take (i := 33) (v := ?_) rfl (by kernel_rfl) (by kernel_rfl) (by kernel_rfl) (fun _ _ _ h => h) (F15) (Or.inl ⟨by rfl, ?_⟩) ?_; rotate_left; (intro wx hx; go_simp) <;> (with_reducible rfl); (try simp only [Act.put, List.setIfInBounds_toArray, List.set_cons_zero, List.set_cons_succ, List.getElem_toArray, List.getElem_cons_succ, List.getElem_cons_zero])); (refine wpG_take (i := 34) (v := ?_) rfl (by kernel_rfl) (by kernel_rfl) (by kernel_rfl) (fun _ _ _ h => h) (F15) (Or.inl ⟨by rfl, ?_⟩) ?_; rotate_left; (intro wx hx; go_simp) <;> (with_reducible rfl); (try simp only [Act.put, List.setIfInBounds_toArray, List.set_cons_zero, List.set_cons_succ, List.getElem_toArray, List.getElem_cons_succ, List.getElem_cons_zero])); (refine wpG_take (i := 36) (v := ?_) rfl (by kernel_rfl) (by kernel_rfl) (by kernel_rfl) (fun _ _ _ h => h) (F15) (Or.inl ⟨by rfl, ?_⟩) ?_; rotate_left; (intro wx hx; go_simp) <;> (with_reducible rfl); (try simp only [Act.put, List.setIfInBounds_toArray, List.set_cons_zero, List.set_cons_succ, List.getElem_toArray, List.getElem_cons_succ, List.getElem_cons_zero])); (refine wpG_take (i := 38) (v := ?_) rfl (by kernel_rfl) (by kernel_rfl) (by kernel_rfl) (fun _ _ _ h => h) (F15) (Or.inl ⟨by rfl, ?_⟩) ?_; rotate_left; (intro wx hx; go_simp) <;> (with_reducible rfl); (try simp only [Act.put, List.setIfInBounds_toArray, List.set_cons_zero, List.set_cons_succ, List.getElem_toArray, List.getElem_cons_succ, List.getElem_cons_zero])); (refine wpG_take (i := 39) (v := ?_) rfl (by kernel_rfl) (by kernel_rfl) (by kernel_rfl) (fun _ _ _ h => h) (F15) (Or.inl ⟨by rfl, ?_⟩) ?_; rotate_left; (intro wx hx; go_simp) <;> (with_reducible rfl); (try simp only [Act.put, List.setIfInBounds_toArray, List.set_cons_zero, List.set_cons_succ, List.getElem_toArray, List.getElem_cons_succ, List.getElem_cons_zero])); (refine wpG_take (i := 40) (v := ?_) rfl (by kernel_rfl) (by kernel_rfl) (by kernel_rfl) (fun _ _ _ h => h) (F15) (Or.inl ⟨by rfl, ?_⟩) ?_; rotate_left; (intro wx hx; go_simp) <;> (with_reducible rfl); (try simp only [Act.put, List.setIfInBounds_toArray, List.set_cons_zero, List.set_cons_succ, List.getElem_toArray, List.getElem_cons_succ, List.getElem_cons_zero]))
        (refine wpG_one (i := 35) (by kernel_rfl) rfl ?_; intro K hK; (try simp only [Act.put, List.setIfInBounds_toArray, List.set_cons_zero, List.set_cons_succ, List.getElem_toArray, List.getElem_cons_succ, List.getElem_cons_zero]))
        refine step_call rfl rfl enEMul rfl (mulE hv1 hd1 hv2 hd2) ?_
        rintro r w16 ⟨a16, b16, c16, e16, f16, hv16, hd16, rfl, hb16⟩
        have F16 : From wz.drew w16 := bnx F15 hb16
        refine ⟨_, rfl, hK (From wz.drew) _ _ (fun _ h => h) F16 ?_⟩
        clear hK K hb16
        (try simp only [Act.put, List.setIfInBounds_toArray, List.set_cons_zero, List.set_cons_succ, List.getElem_toArray, List.getElem_cons_succ, List.getElem_cons_zero])
        (refine wpG_one (i := 37) (by kernel_rfl) rfl ?_; intro K hK; (try simp only [Act.put, List.setIfInBounds_toArray, List.set_cons_zero, List.set_cons_succ, List.getElem_toArray, List.getElem_cons_succ, List.getElem_cons_zero]))
        refine step_call rfl rfl enEMul rfl (mulE hv16 hd16 hv3 hd3) ?_
        rintro r w17 ⟨a17, b17, c17, e17, f17, hv17, hd17, rfl, hb17⟩
        have F17 : From wz.drew w17 := bnx F16 hb17
        refine ⟨_, rfl, hK (From wz.drew) _ _ (fun _ h => h) F17 ?_⟩
        clear hK K hb17
        (try simp only [Act.put, List.setIfInBounds_toArray, List.set_cons_zero, List.set_cons_succ, List.getElem_toArray, List.getElem_cons_succ, List.getElem_cons_zero])
        (refine wpG_one (i := 41) (by kernel_rfl) rfl ?_; intro K hK; (try simp only [Act.put, List.setIfInBounds_toArray, List.set_cons_zero, List.set_cons_succ, List.getElem_toArray, List.getElem_cons_succ, List.getElem_cons_zero]))
        refine step_call rfl rfl enEMul rfl (mulE hv2 hd2 hv3 hd3) ?_
        rintro r w18 ⟨a18, b18, c18, e18, f18, hv18, hd18, rfl, hb18⟩
        have F18 : From wz.drew w18 := bnx F17 hb18
        refine ⟨_, rfl, hK (From wz.drew) _ _ (fun _ h => h) F18 ?_⟩
        clear hK K hb18
        (try simp only [Act.put, List.setIfInBounds_toArray, List.set_cons_zero, List.set_cons_succ, List.getElem_toArray, List.getElem_cons_succ, List.getElem_cons_zero])
        (refine wpG_one (i := 42) (by kernel_rfl) rfl ?_; intro K hK; (try simp only [Act.put, List.setIfInBounds_toArray, List.set_cons_zero, List.set_cons_succ, List.getElem_toArray, List.getElem_cons_succ, List.getElem_cons_zero]))
        refine step_call rfl rfl enEMul rfl (mulE hv1 hd1 hv18 hd18) ?_
        rintro r w19 ⟨a19, b19, c19, e19, f19, hv19, hd19, rfl, hb19⟩
        have F19 : From wz.drew w19 := bnx F18 hb19
        refine ⟨_, rfl, hK (From wz.drew) _ _ (fun _ h => h) F19 ?_⟩
        clear hK K hb19
        (try simp only [Act.put, List.setIfInBounds_toArray, List.set_cons_zero, List.set_cons_succ, List.getElem_toArray, List.getElem_cons_succ, List.getElem_cons_zero])
        (refine wpG_one (i := 43) (by kernel_rfl) rfl ?_; intro K hK; (try simp only [Act.put, List.setIfInBounds_toArray, List.set_cons_zero, List.set_cons_succ, List.getElem_toArray, List.getElem_cons_succ, List.getElem_cons_zero]))
        refine step_call rfl rfl enSame rfl (sameT hv17 hd17 hv19 hd19 (fl4 _ _ _)) ?_
        rintro r w20 ⟨rfl, hb20⟩
        have F20 : From wz.drew w20 := bnx F19 hb20
        refine ⟨_, rfl, hK (From wz.drew) _ _ (fun _ h => h) F20 ?_⟩
        clear hK K hb20
        (try simp only [Act.put, List.setIfInBounds_toArray, List.set_cons_zero, List.set_cons_succ, List.getElem_toArray, List.getElem_cons_succ, List.getElem_cons_zero])
        (refine wpG_take (i := 44) (v := ?_) rfl (by kernel_rfl) (by kernel_rfl) (by kernel_rfl) (fun _ _ _ h => h) (F20) (Or.inl ⟨by rfl, ?_⟩) ?_; rotate_left; (intro wx hx; go_simp) <;> (with_reducible rfl); (try simp only [Act.put, List.setIfInBounds_toArray, List.set_cons_zero, List.set_cons_succ, List.getElem_toArray, List.getElem_cons_succ, List.getElem_cons_zero])); (refine wpG_take (i := 45) (v := ?_) rfl (by kernel_rfl) (by kernel_rfl) (by kernel_rfl) (fun _ _ _ h => h) (F20) (Or.inl ⟨by rfl, ?_⟩) ?_; rotate_left; (intro wx hx; go_simp) <;> (with_reducible rfl); (try simp only [Act.put, List.setIfInBounds_toArray, List.set_cons_zero, List.set_cons_succ, List.getElem_toArray, List.getElem_cons_succ, List.getElem_cons_zero])); (refine wpG_take (i := 46) (v := ?_) rfl (by kernel_rfl) (by kernel_rfl) (by kernel_rfl) (fun _ _ _ h => h) (F20) (Or.inl ⟨by rfl, ?_⟩) ?_; rotate_left; (intro wx hx; go_simp) <;> (with_reducible rfl); (try simp only [Act.put, List.setIfInBounds_toArray, List.set_cons_zero, List.set_cons_succ, List.getElem_toArray, List.getElem_cons_succ, List.getElem_cons_zero])); (refine wpG_take (i := 47) (v := ?_) rfl (by kernel_rfl) (by kernel_rfl) (by kernel_rfl) (fun _ _ _ h => h) (F20) (Or.inl ⟨by rfl, ?_⟩) ?_; rotate_left; (intro wx hx; go_simp) <;> (with_reducible rfl); (try simp only [Act.put, List.setIfInBounds_toArray, List.set_cons_zero, List.set_cons_succ, List.getElem_toArray, List.getElem_cons_succ, List.getElem_cons_zero])); (refine wpG_take (i := 48) (v := ?_) rfl (by kernel_rfl) (by kernel_rfl) (by kernel_rfl) (fun _ _ _ h => h) (F20) (Or.inl ⟨by rfl, ?_⟩) ?_; rotate_left; (intro wx hx; go_simp) <;> (with_reducible rfl); (try simp only [Act.put, List.setIfInBounds_toArray, List.set_cons_zero, List.set_cons_succ, List.getElem_toArray, List.getElem_cons_succ, List.getElem_cons_zero])); (refine wpG_take (i := 49) (v := ?_) rfl (by kernel_rfl) (by kernel_rfl) (by kernel_rfl) (fun _ _ _ h => h) (F20) (Or.inl ⟨by rfl, ?_⟩) ?_; rotate_left; (intro wx hx; go_simp) <;> (with_reducible rfl); (try simp only [Act.put, List.setIfInBounds_toArray, List.set_cons_zero, List.set_cons_succ, List.getElem_toArray, List.getElem_cons_succ, List.getElem_cons_zero])); (refine wpG_take (i := 52) (v := ?_) rfl (by kernel_rfl) (by kernel_rfl) (by kernel_rfl) (fun _ _ _ h => h) (F20) (Or.inl ⟨by rfl, ?_⟩) ?_; rotate_left; (intro wx hx; go_simp) <;> (with_reducible rfl); (try simp only [Act.put, List.setIfInBounds_toArray, List.set_cons_zero, List.set_cons_succ, List.getElem_toArray, List.getElem_cons_succ, List.getElem_cons_zero])); (refine wpG_take (i := 53) (v := ?_) rfl (by kernel_rfl) (by kernel_rfl) (by kernel_rfl) (fun _ _ _ h => h) (F20) (Or.inl ⟨by rfl, ?_⟩) ?_; rotate_left; (intro wx hx; go_simp) <;> (with_reducible rfl); (try simp only [Act.put, List.setIfInBounds_toArray, List.set_cons_zero, List.set_cons_succ, List.getElem_toArray, List.getElem_cons_succ, List.getElem_cons_zero])); (refine wpG_take (i := 55) (v := ?_) rfl (by kernel_rfl) (by kernel_rfl) (by kernel_rfl) (fun _ _ _ h => h) (F20) (Or.inl ⟨by rfl, ?_⟩) ?_; rotate_left; (intro wx hx; go_simp) <;> (with_reducible rfl); (try simp only [Act.put, List.setIfInBounds_toArray, List.set_cons_zero, List.set_cons_succ, List.getElem_toArray, List.getElem_cons_succ, List.getElem_cons_zero])); (refine wpG_take (i := 56) (v := ?_) rfl (by kernel_rfl) (by kernel_rfl) (by kernel_rfl) (fun _ _ _ h => h) (F20) (Or.inl ⟨by rfl, ?_⟩) ?_; rotate_left; (intro wx hx; go_simp) <;> (with_reducible rfl); (try simp only [Act.put, List.setIfInBounds_toArray, List.set_cons_zero, List.set_cons_succ, List.getElem_toArray, List.getElem_cons_succ, List.getElem_cons_zero]))
        (refine wpG_one (i := 50) (by kernel_rfl) rfl ?_; intro K hK; (try simp only [Act.put, List.setIfInBounds_toArray, List.set_cons_zero, List.set_cons_succ, List.getElem_toArray, List.getElem_cons_succ, List.getElem_cons_zero]))
        refine step_call rfl rfl enEAdd rfl (addE hv2 hd2 hv3 hd3) ?_
        rintro r w21 ⟨a21, b21, c21, e21, f21, hv21, hd21, rfl, hb21⟩
        have F21 : From wz.drew w21 := bnx F20 hb21
        refine ⟨_, rfl, hK (From wz.drew) _ _ (fun _ h => h) F21 ?_⟩
        clear hK K hb21
        (try simp only [Act.put, List.setIfInBounds_toArray, List.set_cons_zero, List.set_cons_succ, List.getElem_toArray, List.getElem_cons_succ, List.getElem_cons_zero])
        (refine wpG_one (i := 51) (by kernel_rfl) rfl ?_; intro K hK; (try simp only [Act.put, List.setIfInBounds_toArray, List.set_cons_zero, List.set_cons_succ, List.getElem_toArray, List.getElem_cons_succ, List.getElem_cons_zero]))
        refine step_call rfl rfl enEMul rfl (mulE hv1 hd1 hv21 hd21) ?_
        rintro r w22 ⟨a22, b22, c22, e22, f22, hv22, hd22, rfl, hb22⟩
        have F22 : From wz.drew w22 := bnx F21 hb22
        refine ⟨_, rfl, hK (From wz.drew) _ _ (fun _ h => h) F22 ?_⟩
        clear hK K hb22
        (try simp only [Act.put, List.setIfInBounds_toArray, List.set_cons_zero, List.set_cons_succ, List.getElem_toArray, List.getElem_cons_succ, List.getElem_cons_zero])
        (refine wpG_one (i := 54) (by kernel_rfl) rfl ?_; intro K hK; (try simp only [Act.put, List.setIfInBounds_toArray, List.set_cons_zero, List.set_cons_succ, List.getElem_toArray, List.getElem_cons_succ, List.getElem_cons_zero]))
        refine step_call rfl rfl enEMul rfl (mulE hv1 hd1 hv2 hd2) ?_
        rintro r w23 ⟨a23, b23, c23, e23, f23, hv23, hd23, rfl, hb23⟩
        have F23 : From wz.drew w23 := bnx F22 hb23
        refine ⟨_, rfl, hK (From wz.drew) _ _ (fun _ h => h) F23 ?_⟩
        clear hK K hb23
        (try simp only [Act.put, List.setIfInBounds_toArray, List.set_cons_zero, List.set_cons_succ, List.getElem_toArray, List.getElem_cons_succ, List.getElem_cons_zero])
        (refine wpG_one (i := 57) (by kernel_rfl) rfl ?_; intro K hK; (try simp only [Act.put, List.setIfInBounds_toArray, List.set_cons_zero, List.set_cons_succ, List.getElem_toArray, List.getElem_cons_succ, List.getElem_cons_zero]))
        refine step_call rfl rfl enEMul rfl (mulE hv1 hd1 hv3 hd3) ?_
        rintro r w24 ⟨a24, b24, c24, e24, f24, hv24, hd24, rfl, hb24⟩
        have F24 : From wz.drew w24 := bnx F23 hb24
        refine ⟨_, rfl, hK (From wz.drew) _ _ (fun _ h => h) F24 ?_⟩
        clear hK K hb24
        (try simp only [Act.put, List.setIfInBounds_toArray, List.set_cons_zero, List.set_cons_succ, List.getElem_toArray, List.getElem_cons_succ, List.getElem_cons_zero])
        (refine wpG_one (i := 58) (by kernel_rfl) rfl ?_; intro K hK; (try simp only [Act.put, List.setIfInBounds_toArray, List.set_cons_zero, List.set_cons_succ, List.getElem_toArray, List.getElem_cons_succ, List.getElem_cons_zero]))
        refine step_call rfl rfl enEAdd rfl (addE hv23 hd23 hv24 hd24) ?_
        rintro r w25 ⟨a25, b25, c25, e25, f25, hv25, hd25, rfl, hb25⟩
        have F25 : From wz.drew w25 := bnx F24 hb25
        refine ⟨_, rfl, hK (From wz.drew) _ _ (fun _ h => h) F25 ?_⟩
        clear hK K hb25
        (try simp only [Act.put, List.setIfInBounds_toArray, List.set_cons_zero, List.set_cons_succ, List.getElem_toArray, List.getElem_cons_succ, List.getElem_cons_zero])
        (refine wpG_one (i := 59) (by kernel_rfl) rfl ?_; intro K hK; (try simp only [Act.put, List.setIfInBounds_toArray, List.set_cons_zero, List.set_cons_succ, List.getElem_toArray, List.getElem_cons_succ, List.getElem_cons_zero]))
        refine step_call rfl rfl enSame rfl (sameT hv22 hd22 hv25 hd25 (fl5 _ _ _)) ?_
        rintro r w26 ⟨rfl, hb26⟩
        have F26 : From wz.drew w26 := bnx F25 hb26
        refine ⟨_, rfl, hK (From wz.drew) _ _ (fun _ h => h) F26 ?_⟩
        clear hK K hb26
        (try simp only [Act.put, List.setIfInBounds_toArray, List.set_cons_zero, List.set_cons_succ, List.getElem_toArray, List.getElem_cons_succ, List.getElem_cons_zero])
        (refine wpG_take (i := 60) (v := ?_) rfl (by kernel_rfl) (by kernel_rfl) (by kernel_rfl) (fun _ _ _ h => h) (F26) (Or.inl ⟨by rfl, ?_⟩) ?_; rotate_left; (intro wx hx; go_simp) <;> (with_reducible rfl); (try simp only [Act.put, List.setIfInBounds_toArray, List.set_cons_zero, List.set_cons_succ, List.getElem_toArray, List.getElem_cons_succ, List.getElem_cons_zero])); (refine wpG_take (i := 61) (v := ?_) rfl (by kernel_rfl) (by kernel_rfl) (by kernel_rfl) (fun _ _ _ h => h) (F26) (Or.inl ⟨by rfl, ?_⟩) ?_; rotate_left; (intro wx hx; go_simp) <;> (with_reducible rfl); (try simp only [Act.put, List.setIfInBounds_toArray, List.set_cons_zero, List.set_cons_succ, List.getElem_toArray, List.getElem_cons_succ, List.getElem_cons_zero]))
        refine wpG_done (by kernel_rfl) ?_ _
        clear p7_0 p7_1 p7_2 p7_3 p7_4 p8_0 p8_1 p8_2 p8_3 p8_4 p9_0 p9_1 p9_2 p9_3 p9_4
        go_upto_region 7 with fail
        have wyS := (wzD.out.call F26)
        try simp only [size_alloc1] at wyS
        obtain ⟨wy, hwy⟩ : ∃ W, W = w26 := ⟨_, rfl⟩
        rw [← hwy] at wyS ⊢
        clear hwy
        have wyH := hide wyS
        clear wyS
        have wyD := hide wyH.out.drew
        have p7_0 : ∀ z, From wy.drew z → z.cell? ⟨w3.heap.size, 0, none⟩ = some (.int .u64 (a1 : Int)) := fun z hz => by rw [hz.cell (p := ⟨w3.heap.size, 0, none⟩) (Chunk.lt (wyD.out.sat 3 _ rfl) rfl)]; exact wyD.out.cell 3 rfl 0
        have p7_1 : ∀ z, From wy.drew z → z.cell? ⟨w3.heap.size, 1, none⟩ = some (.int .u64 (b1 : Int)) := fun z hz => by rw [hz.cell (p := ⟨w3.heap.size, 1, none⟩) (Chunk.lt (wyD.out.sat 3 _ rfl) rfl)]; exact wyD.out.cell 3 rfl 1
        have p7_2 : ∀ z, From wy.drew z → z.cell? ⟨w3.heap.size, 2, none⟩ = some (.int .u64 (c1 : Int)) := fun z hz => by rw [hz.cell (p := ⟨w3.heap.size, 2, none⟩) (Chunk.lt (wyD.out.sat 3 _ rfl) rfl)]; exact wyD.out.cell 3 rfl 2
        have p7_3 : ∀ z, From wy.drew z → z.cell? ⟨w3.heap.size, 3, none⟩ = some (.int .u64 (e1 : Int)) := fun z hz => by rw [hz.cell (p := ⟨w3.heap.size, 3, none⟩) (Chunk.lt (wyD.out.sat 3 _ rfl) rfl)]; exact wyD.out.cell 3 rfl 3
        have p7_4 : ∀ z, From wy.drew z → z.cell? ⟨w3.heap.size, 4, none⟩ = some (.int .u64 (f1 : Int)) := fun z hz => by rw [hz.cell (p := ⟨w3.heap.size, 4, none⟩) (Chunk.lt (wyD.out.sat 3 _ rfl) rfl)]; exact wyD.out.cell 3 rfl 4
        have p8_0 : ∀ z, From wy.drew z → z.cell? ⟨w3.heap.size + 1, 0, none⟩ = some (.int .u64 (a2 : Int)) := fun z hz => by rw [hz.cell (p := ⟨w3.heap.size + 1, 0, none⟩) (Chunk.lt (wyD.out.sat 2 _ rfl) rfl)]; exact wyD.out.cell 2 rfl 0
        have p8_1 : ∀ z, From wy.drew z → z.cell? ⟨w3.heap.size + 1, 1, none⟩ = some (.int .u64 (b2 : Int)) := fun z hz => by rw [hz.cell (p := ⟨w3.heap.size + 1, 1, none⟩) (Chunk.lt (wyD.out.sat 2 _ rfl) rfl)]; exact wyD.out.cell 2 rfl 1
        have p8_2 : ∀ z, From wy.drew z → z.cell? ⟨w3.heap.size + 1, 2, none⟩ = some (.int .u64 (c2 : Int)) := fun z hz => by rw [hz.cell (p := ⟨w3.heap.size + 1, 2, none⟩) (Chunk.lt (wyD.out.sat 2 _ rfl) rfl)]; exact wyD.out.cell 2 rfl 2
        have p8_3 : ∀ z, From wy.drew z → z.cell? ⟨w3.heap.size + 1, 3, none⟩ = some (.int .u64 (e2 : Int)) := fun z hz => by rw [hz.cell (p := ⟨w3.heap.size + 1, 3, none⟩) (Chunk.lt (wyD.out.sat 2 _ rfl) rfl)]; exact wyD.out.cell 2 rfl 3
        have p8_4 : ∀ z, From wy.drew z → z.cell? ⟨w3.heap.size + 1, 4, none⟩ = some (.int .u64 (f2 : Int)) := fun z hz => by rw [hz.cell (p := ⟨w3.heap.size + 1, 4, none⟩) (Chunk.lt (wyD.out.sat 2 _ rfl) rfl)]; exact wyD.out.cell 2 rfl 4
        have p10_0 : ∀ z, From wy.drew z → z.cell? ⟨w4.heap.size, 0, none⟩ = some (.int .u64 (a4 : Int)) := fun z hz => by rw [hz.cell (p := ⟨w4.heap.size, 0, none⟩) (Chunk.lt (wyD.out.sat 0 _ rfl) rfl)]; exact wyD.out.cell 0 rfl 0
        have p10_1 : ∀ z, From wy.drew z → z.cell? ⟨w4.heap.size, 1, none⟩ = some (.int .u64 (b4 : Int)) := fun z hz => by rw [hz.cell (p := ⟨w4.heap.size, 1, none⟩) (Chunk.lt (wyD.out.sat 0 _ rfl) rfl)]; exact wyD.out.cell 0 rfl 1
        have p10_2 : ∀ z, From wy.drew z → z.cell? ⟨w4.heap.size, 2, none⟩ = some (.int .u64 (c4 : Int)) := fun z hz => by rw [hz.cell (p := ⟨w4.heap.size, 2, none⟩) (Chunk.lt (wyD.out.sat 0 _ rfl) rfl)]; exact wyD.out.cell 0 rfl 2
        have p10_3 : ∀ z, From wy.drew z → z.cell? ⟨w4.heap.size, 3, none⟩ = some (.int .u64 (e4 : Int)) := fun z hz => by rw [hz.cell (p := ⟨w4.heap.size, 3, none⟩) (Chunk.lt (wyD.out.sat 0 _ rfl) rfl)]; exact wyD.out.cell 0 rfl 3
        have p10_4 : ∀ z, From wy.drew z → z.cell? ⟨w4.heap.size, 4, none⟩ = some (.int .u64 (f4 : Int)) := fun z hz => by rw [hz.cell (p := ⟨w4.heap.size, 4, none⟩) (Chunk.lt (wyD.out.sat 0 _ rfl) rfl)]; exact wyD.out.cell 0 rfl 4
        refine wp_region_F (by kernel_rfl) ?_
        (refine wpG_take (i := 0) (v := ?_) rfl (by kernel_rfl) (by kernel_rfl) (by kernel_rfl) (fun _ _ _ h => h) ((From.refl wy.drew)) (Or.inl ⟨by rfl, ?_⟩) ?_; rotate_left; (intro wx hx; go_simp) <;> (with_reducible rfl); (try simp only [Act.put, List.setIfInBounds_toArray, List.set_cons_zero, List.set_cons_succ, List.getElem_toArray, List.getElem_cons_succ, List.getElem_cons_zero])); (refine wpG_take (i := 1) (v := ?_) rfl (by kernel_rfl) (by kernel_rfl) (by kernel_rfl) (fun _ _ _ h => h) ((From.refl wy.drew)) (Or.inl ⟨by rfl, ?_⟩) ?_; rotate_left; (intro wx hx; go_simp) <;> (with_reducible rfl); (try simp only [Act.put, List.setIfInBounds_toArray, List.set_cons_zero, List.set_cons_succ, List.getElem_toArray, List.getElem_cons_succ, List.getElem_cons_zero])); (refine wpG_take (i := 3) (v := ?_) rfl (by kernel_rfl) (by kernel_rfl) (by kernel_rfl) (fun _ _ _ h => h) ((From.refl wy.drew)) (Or.inl ⟨by rfl, ?_⟩) ?_; rotate_left; (intro wx hx; go_simp) <;> (with_reducible rfl); (try simp only [Act.put, List.setIfInBounds_toArray, List.set_cons_zero, List.set_cons_succ, List.getElem_toArray, List.getElem_cons_succ, List.getElem_cons_zero])); (refine wpG_take (i := 5) (v := ?_) rfl (by kernel_rfl) (by kernel_rfl) (by kernel_rfl) (fun _ _ _ h => h) ((From.refl wy.drew)) (Or.inl ⟨by rfl, ?_⟩) ?_; rotate_left; (intro wx hx; go_simp) <;> (with_reducible rfl); (try simp only [Act.put, List.setIfInBounds_toArray, List.set_cons_zero, List.set_cons_succ, List.getElem_toArray, List.getElem_cons_succ, List.getElem_cons_zero]))
        (refine wpG_one (i := 2) (by kernel_rfl) rfl ?_; intro K hK; (try simp only [Act.put, List.setIfInBounds_toArray, List.set_cons_zero, List.set_cons_succ, List.getElem_toArray, List.getElem_cons_succ, List.getElem_cons_zero]))
        refine step_call rfl rfl enESub rfl (subE hv1 hd1 hv2 hd2) ?_
        rintro r w27 ⟨a27, b27, c27, e27, f27, hv27, hd27, rfl, hb27⟩
        have F27 : From wy.drew w27 := bnx (From.refl wy.drew) hb27
        refine ⟨_, rfl, hK (From wy.drew) _ _ (fun _ h => h) F27 ?_⟩
        clear hK K hb27
        (try simp only [Act.put, List.setIfInBounds_toArray, List.set_cons_zero, List.set_cons_succ, List.getElem_toArray, List.getElem_cons_succ, List.getElem_cons_zero])
        (refine wpG_one (i := 4) (by kernel_rfl) rfl ?_; intro K hK; (try simp only [Act.put, List.setIfInBounds_toArray, List.set_cons_zero, List.set_cons_succ, List.getElem_toArray, List.getElem_cons_succ, List.getElem_cons_zero]))
        refine step_call rfl rfl enEAdd rfl (addE hv27 hd27 hv2 hd2) ?_
        rintro r w28 ⟨a28, b28, c28, e28, f28, hv28, hd28, rfl, hb28⟩
        have F28 : From wy.drew w28 := bnx F27 hb28
        refine ⟨_, rfl, hK (From wy.drew) _ _ (fun _ h => h) F28 ?_⟩
        clear hK K hb28
        (try simp only [Act.put, List.setIfInBounds_toArray, List.set_cons_zero, List.set_cons_succ, List.getElem_toArray, List.getElem_cons_succ, List.getElem_cons_zero])
        (refine wpG_one (i := 6) (by kernel_rfl) rfl ?_; intro K hK; (try simp only [Act.put, List.setIfInBounds_toArray, List.set_cons_zero, List.set_cons_succ, List.getElem_toArray, List.getElem_cons_succ, List.getElem_cons_zero]))
        refine step_call rfl rfl enSame rfl (sameT hv28 hd28 hv1 hd1 (fl6 _ _)) ?_
        rintro r w29 ⟨rfl, hb29⟩
        have F29 : From wy.drew w29 := bnx F28 hb29
        refine ⟨_, rfl, hK (From wy.drew) _ _ (fun _ h => h) F29 ?_⟩
        clear hK K hb29
        (try simp only [Act.put, List.setIfInBounds_toArray, List.set_cons_zero, List.set_cons_succ, List.getElem_toArray, List.getElem_cons_succ, List.getElem_cons_zero])
        (refine wpG_take (i := 7) (v := ?_) rfl (by kernel_rfl) (by kernel_rfl) (by kernel_rfl) (fun _ _ _ h => h) (F29) (Or.inl ⟨by rfl, ?_⟩) ?_; rotate_left; (intro wx hx; go_simp) <;> (with_reducible rfl); (try simp only [Act.put, List.setIfInBounds_toArray, List.set_cons_zero, List.set_cons_succ, List.getElem_toArray, List.getElem_cons_succ, List.getElem_cons_zero])); (refine wpG_take (i := 8) (v := ?_) rfl (by kernel_rfl) (by kernel_rfl) (by kernel_rfl) (fun _ _ _ h => h) (F29) (Or.inl ⟨by rfl, ?_⟩) ?_; rotate_left; (intro wx hx; go_simp) <;> (with_reducible rfl); (try simp only [Act.put, List.setIfInBounds_toArray, List.set_cons_zero, List.set_cons_succ, List.getElem_toArray, List.getElem_cons_succ, List.getElem_cons_zero])); (refine wpG_take (i := 9) (v := ?_) rfl (by kernel_rfl) (by kernel_rfl) (by kernel_rfl) (fun _ _ _ h => h) (F29) (Or.inl ⟨by rfl, ?_⟩) ?_; rotate_left; (intro wx hx; go_simp) <;> (with_reducible rfl); (try simp only [Act.put, List.setIfInBounds_toArray, List.set_cons_zero, List.set_cons_succ, List.getElem_toArray, List.getElem_cons_succ, List.getElem_cons_zero])); (refine wpG_take (i := 10) (v := ?_) rfl (by kernel_rfl) (by kernel_rfl) (by kernel_rfl) (fun _ _ _ h => h) (F29) (Or.inl ⟨by rfl, ?_⟩) ?_; rotate_left; (intro wx hx; go_simp) <;> (with_reducible rfl); (try simp only [Act.put, List.setIfInBounds_toArray, List.set_cons_zero, List.set_cons_succ, List.getElem_toArray, List.getElem_cons_succ, List.getElem_cons_zero]))
        (refine wpG_one (i := 11) (by kernel_rfl) rfl ?_; intro K hK; (try simp only [Act.put, List.setIfInBounds_toArray, List.set_cons_zero, List.set_cons_succ, List.getElem_toArray, List.getElem_cons_succ, List.getElem_cons_zero]))
        refine step_call rfl rfl enENeg rfl (negE hv1 hd1) ?_
        rintro r w30 ⟨a30, b30, c30, e30, f30, hv30, hd30, rfl, hb30⟩
        have F30 : From wy.drew w30 := bnx F29 hb30
        refine ⟨_, rfl, hK (From wy.drew) _ _ (fun _ h => h) F30 ?_⟩
        clear hK K hb30
        (try simp only [Act.put, List.setIfInBounds_toArray, List.set_cons_zero, List.set_cons_succ, List.getElem_toArray, List.getElem_cons_succ, List.getElem_cons_zero])
        (refine wpG_one (i := 12) (by kernel_rfl) rfl ?_; intro K hK; (try simp only [Act.put, List.setIfInBounds_toArray, List.set_cons_zero, List.set_cons_succ, List.getElem_toArray, List.getElem_cons_succ, List.getElem_cons_zero]))
        refine step_call rfl rfl enEAdd rfl (addE hv1 hd1 hv30 hd30) ?_
        rintro r w31 ⟨a31, b31, c31, e31, f31, hv31, hd31, rfl, hb31⟩
        have F31 : From wy.drew w31 := bnx F30 hb31
        refine ⟨_, rfl, hK (From wy.drew) _ _ (fun _ h => h) F31 ?_⟩
        clear hK K hb31
        (try simp only [Act.put, List.setIfInBounds_toArray, List.set_cons_zero, List.set_cons_succ, List.getElem_toArray, List.getElem_cons_succ, List.getElem_cons_zero])
        (refine wpG_one (i := 13) (by kernel_rfl) rfl ?_; intro K hK; (try simp only [Act.put, List.setIfInBounds_toArray, List.set_cons_zero, List.set_cons_succ, List.getElem_toArray, List.getElem_cons_succ, List.getElem_cons_zero]))
        refine step_call rfl rfl enIsZero rfl (zeroT hv31 hd31 (fl7 _)) ?_
        rintro r w32 ⟨rfl, hb32⟩
        have F32 : From wy.drew w32 := bnx F31 hb32
        refine ⟨_, rfl, hK (From wy.drew) _ _ (fun _ h => h) F32 ?_⟩
        clear hK K hb32
        (try simp only [Act.put, List.setIfInBounds_toArray, List.set_cons_zero, List.set_cons_succ, List.getElem_toArray, List.getElem_cons_succ, List.getElem_cons_zero])
        (refine wpG_take (i := 14) (v := ?_) rfl (by kernel_rfl) (by kernel_rfl) (by kernel_rfl) (fun _ _ _ h => h) (F32) (Or.inl ⟨by rfl, ?_⟩) ?_; rotate_left; (intro wx hx; go_simp) <;> (with_reducible rfl); (try simp only [Act.put, List.setIfInBounds_toArray, List.set_cons_zero, List.set_cons_succ, List.getElem_toArray, List.getElem_cons_succ, List.getElem_cons_zero])); (refine wpG_take (i := 15) (v := ?_) rfl (by kernel_rfl) (by kernel_rfl) (by kernel_rfl) (fun _ _ _ h => h) (F32) (Or.inl ⟨by rfl, ?_⟩) ?_; rotate_left; (intro wx hx; go_simp) <;> (with_reducible rfl); (try simp only [Act.put, List.setIfInBounds_toArray, List.set_cons_zero, List.set_cons_succ, List.getElem_toArray, List.getElem_cons_succ, List.getElem_cons_zero])); (refine wpG_take (i := 16) (v := ?_) rfl (by kernel_rfl) (by kernel_rfl) (by kernel_rfl) (fun _ _ _ h => h) (F32) (Or.inl ⟨by rfl, ?_⟩) ?_; rotate_left; (intro wx hx; go_simp) <;> (with_reducible rfl); (try simp only [Act.put, List.setIfInBounds_toArray, List.set_cons_zero, List.set_cons_succ, List.getElem_toArray, List.getElem_cons_succ, List.getElem_cons_zero])); (refine wpG_take (i := 17) (v := ?_) rfl (by kernel_rfl) (by kernel_rfl) (by kernel_rfl) (fun _ _ _ h => h) (F32) (Or.inl ⟨by rfl, ?_⟩) ?_; rotate_left; (intro wx hx; go_simp) <;> (with_reducible rfl); (try simp only [Act.put, List.setIfInBounds_toArray, List.set_cons_zero, List.set_cons_succ, List.getElem_toArray, List.getElem_cons_succ, List.getElem_cons_zero])); (refine wpG_take (i := 18) (v := ?_) rfl (by kernel_rfl) (by kernel_rfl) (by kernel_rfl) (fun _ _ _ h => h) (F32) (Or.inl ⟨by rfl, ?_⟩) ?_; rotate_left; (intro wx hx; go_simp) <;> (with_reducible rfl); (try simp only [Act.put, List.setIfInBounds_toArray, List.set_cons_zero, List.set_cons_succ, List.getElem_toArray, List.getElem_cons_succ, List.getElem_cons_zero])); (refine wpG_take (i := 20) (v := ?_) rfl (by kernel_rfl) (by kernel_rfl) (by kernel_rfl) (fun _ _ _ h => h) (F32) (Or.inl ⟨by rfl, ?_⟩) ?_; rotate_left; (intro wx hx; go_simp) <;> (with_reducible rfl); (try simp only [Act.put, List.setIfInBounds_toArray, List.set_cons_zero, List.set_cons_succ, List.getElem_toArray, List.getElem_cons_succ, List.getElem_cons_zero]))
        (refine wpG_one (i := 19) (by kernel_rfl) rfl ?_; intro K hK; (try simp only [Act.put, List.setIfInBounds_toArray, List.set_cons_zero, List.set_cons_succ, List.getElem_toArray, List.getElem_cons_succ, List.getElem_cons_zero]))
        refine step_call rfl rfl enEMul rfl (mulE hv1 hd1 hv4 hd4) ?_
        rintro r w33 ⟨a33, b33, c33, e33, f33, hv33, hd33, rfl, hb33⟩
        have F33 : From wy.drew w33 := bnx F32 hb33
        refine ⟨_, rfl, hK (From wy.drew) _ _ (fun _ h => h) F33 ?_⟩
        clear hK K hb33
        (try simp only [Act.put, List.setIfInBounds_toArray, List.set_cons_zero, List.set_cons_succ, List.getElem_toArray, List.getElem_cons_succ, List.getElem_cons_zero])
        (refine wpG_one (i := 21) (by kernel_rfl) rfl ?_; intro K hK; (try simp only [Act.put, List.setIfInBounds_toArray, List.set_cons_zero, List.set_cons_succ, List.getElem_toArray, List.getElem_cons_succ, List.getElem_cons_zero]))
        refine step_call rfl rfl enSame rfl (sameT hv33 hd33 hv1 hd1 (fl8 _)) ?_
        rintro r w34 ⟨rfl, hb34⟩
        have F34 : From wy.drew w34 := bnx F33 hb34
        refine ⟨_, rfl, hK (From wy.drew) _ _ (fun _ h => h) F34 ?_⟩
        clear hK K hb34
        (try simp only [Act.put, List.setIfInBounds_toArray, List.set_cons_zero, List.set_cons_succ, List.getElem_toArray, List.getElem_cons_succ, List.getElem_cons_zero])
        (refine wpG_take (i := 22) (v := ?_) rfl (by kernel_rfl) (by kernel_rfl) (by kernel_rfl) (fun _ _ _ h => h) (F34) (Or.inl ⟨by rfl, ?_⟩) ?_; rotate_left; (intro wx hx; go_simp) <;> (with_reducible rfl); (try simp only [Act.put, List.setIfInBounds_toArray, List.set_cons_zero, List.set_cons_succ, List.getElem_toArray, List.getElem_cons_succ, List.getElem_cons_zero])); (refine wpG_take (i := 23) (v := ?_) rfl (by kernel_rfl) (by kernel_rfl) (by kernel_rfl) (fun _ _ _ h => h) (F34) (Or.inl ⟨by rfl, ?_⟩) ?_; rotate_left; (intro wx hx; go_simp) <;> (with_reducible rfl); (try simp only [Act.put, List.setIfInBounds_toArray, List.set_cons_zero, List.set_cons_succ, List.getElem_toArray, List.getElem_cons_succ, List.getElem_cons_zero]))
        refine wpG_done (by kernel_rfl) ?_ _
        clear p7_0 p7_1 p7_2 p7_3 p7_4 p8_0 p8_1 p8_2 p8_3 p8_4 p10_0 p10_1 p10_2 p10_3 p10_4
        go_upto_region 9 with fail
        have wxS := (wyD.out.call F34)
        try simp only [size_alloc1] at wxS
        obtain ⟨wx, hwx⟩ : ∃ W, W = w34 := ⟨_, rfl⟩
        rw [← hwx] at wxS ⊢
        clear hwx
        have wxH := hide wxS
        clear wxS
        by_cases h0 : fbytes l1 = 0
        · have wxD := hide wxH.out.drew
          have p7_0 : ∀ z, From wx.drew z → z.cell? ⟨w3.heap.size, 0, none⟩ = some (.int .u64 (a1 : Int)) := fun z hz => by rw [hz.cell (p := ⟨w3.heap.size, 0, none⟩) (Chunk.lt (wxD.out.sat 3 _ rfl) rfl)]; exact wxD.out.cell 3 rfl 0
          have p7_1 : ∀ z, From wx.drew z → z.cell? ⟨w3.heap.size, 1, none⟩ = some (.int .u64 (b1 : Int)) := fun z hz => by rw [hz.cell (p := ⟨w3.heap.size, 1, none⟩) (Chunk.lt (wxD.out.sat 3 _ rfl) rfl)]; exact wxD.out.cell 3 rfl 1
          have p7_2 : ∀ z, From wx.drew z → z.cell? ⟨w3.heap.size, 2, none⟩ = some (.int .u64 (c1 : Int)) := fun z hz => by rw [hz.cell (p := ⟨w3.heap.size, 2, none⟩) (Chunk.lt (wxD.out.sat 3 _ rfl) rfl)]; exact wxD.out.cell 3 rfl 2
          have p7_3 : ∀ z, From wx.drew z → z.cell? ⟨w3.heap.size, 3, none⟩ = some (.int .u64 (e1 : Int)) := fun z hz => by rw [hz.cell (p := ⟨w3.heap.size, 3, none⟩) (Chunk.lt (wxD.out.sat 3 _ rfl) rfl)]; exact wxD.out.cell 3 rfl 3
          have p7_4 : ∀ z, From wx.drew z → z.cell? ⟨w3.heap.size, 4, none⟩ = some (.int .u64 (f1 : Int)) := fun z hz => by rw [hz.cell (p := ⟨w3.heap.size, 4, none⟩) (Chunk.lt (wxD.out.sat 3 _ rfl) rfl)]; exact wxD.out.cell 3 rfl 4
          have p10_0 : ∀ z, From wx.drew z → z.cell? ⟨w4.heap.size, 0, none⟩ = some (.int .u64 (a4 : Int)) := fun z hz => by rw [hz.cell (p := ⟨w4.heap.size, 0, none⟩) (Chunk.lt (wxD.out.sat 0 _ rfl) rfl)]; exact wxD.out.cell 0 rfl 0
          have p10_1 : ∀ z, From wx.drew z → z.cell? ⟨w4.heap.size, 1, none⟩ = some (.int .u64 (b4 : Int)) := fun z hz => by rw [hz.cell (p := ⟨w4.heap.size, 1, none⟩) (Chunk.lt (wxD.out.sat 0 _ rfl) rfl)]; exact wxD.out.cell 0 rfl 1
          have p10_2 : ∀ z, From wx.drew z → z.cell? ⟨w4.heap.size, 2, none⟩ = some (.int .u64 (c4 : Int)) := fun z hz => by rw [hz.cell (p := ⟨w4.heap.size, 2, none⟩) (Chunk.lt (wxD.out.sat 0 _ rfl) rfl)]; exact wxD.out.cell 0 rfl 2
          have p10_3 : ∀ z, From wx.drew z → z.cell? ⟨w4.heap.size, 3, none⟩ = some (.int .u64 (e4 : Int)) := fun z hz => by rw [hz.cell (p := ⟨w4.heap.size, 3, none⟩) (Chunk.lt (wxD.out.sat 0 _ rfl) rfl)]; exact wxD.out.cell 0 rfl 3
          have p10_4 : ∀ z, From wx.drew z → z.cell? ⟨w4.heap.size, 4, none⟩ = some (.int .u64 (f4 : Int)) := fun z hz => by rw [hz.cell (p := ⟨w4.heap.size, 4, none⟩) (Chunk.lt (wxD.out.sat 0 _ rfl) rfl)]; exact wxD.out.cell 0 rfl 4
          refine wp_region_F (by kernel_rfl) ?_
          (refine wpG_take (i := 0) (v := ?_) rfl (by kernel_rfl) (by kernel_rfl) (by kernel_rfl) (fun _ _ _ h => h) ((From.refl wx.drew)) (Or.inl ⟨by rfl, ?_⟩) ?_; rotate_left; (intro wx hx; go_simp) <;> (with_reducible rfl); (try simp only [Act.put, List.setIfInBounds_toArray, List.set_cons_zero, List.set_cons_succ, List.getElem_toArray, List.getElem_cons_succ, List.getElem_cons_zero]))
          (refine wpG_one (i := 1) (by kernel_rfl) rfl ?_; intro K hK; (try simp only [Act.put, List.setIfInBounds_toArray, List.set_cons_zero, List.set_cons_succ, List.getElem_toArray, List.getElem_cons_succ, List.getElem_cons_zero]))
          refine step_call rfl rfl enIsZero rfl (zeroT hv1 hd1 h0) ?_
          rintro r w35 ⟨rfl, hb35⟩
          have F35 : From wx.drew w35 := bnx (From.refl wx.drew) hb35
          refine ⟨_, rfl, hK (From wx.drew) _ _ (fun _ h => h) F35 ?_⟩
          clear hK K hb35
          (try simp only [Act.put, List.setIfInBounds_toArray, List.set_cons_zero, List.set_cons_succ, List.getElem_toArray, List.getElem_cons_succ, List.getElem_cons_zero])
          (refine wpG_take (i := 2) (v := ?_) rfl (by kernel_rfl) (by kernel_rfl) (by kernel_rfl) (fun _ _ _ h => h) (F35) (Or.inl ⟨by rfl, ?_⟩) ?_; rotate_left; (intro wx hx; go_simp) <;> (with_reducible rfl); (try simp only [Act.put, List.setIfInBounds_toArray, List.set_cons_zero, List.set_cons_succ, List.getElem_toArray, List.getElem_cons_succ, List.getElem_cons_zero])); (refine wpG_take (i := 3) (v := ?_) rfl (by kernel_rfl) (by kernel_rfl) (by kernel_rfl) (fun _ _ _ h => h) (F35) (Or.inl ⟨by rfl, ?_⟩) ?_; rotate_left; (intro wx hx; go_simp) <;> (with_reducible rfl); (try simp only [Act.put, List.setIfInBounds_toArray, List.set_cons_zero, List.set_cons_succ, List.getElem_toArray, List.getElem_cons_succ, List.getElem_cons_zero]))
          (refine wpG_one (i := 4) (by kernel_rfl) rfl ?_; intro K hK; (try simp only [Act.put, List.setIfInBounds_toArray, List.set_cons_zero, List.set_cons_succ, List.getElem_toArray, List.getElem_cons_succ, List.getElem_cons_zero]))
          refine step_call rfl rfl enEInv rfl (invE hv1 hd1) ?_
          rintro r w36 ⟨a36, b36, c36, e36, f36, hv36, hd36, rfl, hb36⟩
          have F36 : From wx.drew w36 := bnx F35 hb36
          refine ⟨_, rfl, hK (From wx.drew) _ _ (fun _ h => h) F36 ?_⟩
          clear hK K hb36
          (try simp only [Act.put, List.setIfInBounds_toArray, List.set_cons_zero, List.set_cons_succ, List.getElem_toArray, List.getElem_cons_succ, List.getElem_cons_zero])
          (refine wpG_one (i := 5) (by kernel_rfl) rfl ?_; intro K hK; (try simp only [Act.put, List.setIfInBounds_toArray, List.set_cons_zero, List.set_cons_succ, List.getElem_toArray, List.getElem_cons_succ, List.getElem_cons_zero]))
          refine step_call rfl rfl enIsZero rfl (zeroT hv36 hd36 (h0 ▸ finv_zero)) ?_
          rintro r w37 ⟨rfl, hb37⟩
          have F37 : From wx.drew w37 := bnx F36 hb37
          refine ⟨_, rfl, hK (From wx.drew) _ _ (fun _ h => h) F37 ?_⟩
          clear hK K hb37
          (try simp only [Act.put, List.setIfInBounds_toArray, List.set_cons_zero, List.set_cons_succ, List.getElem_toArray, List.getElem_cons_succ, List.getElem_cons_zero])
          (refine wpG_take (i := 6) (v := ?_) rfl (by kernel_rfl) (by kernel_rfl) (by kernel_rfl) (fun _ _ _ h => h) (F37) (Or.inl ⟨by rfl, ?_⟩) ?_; rotate_left; (intro wx hx; go_simp) <;> (with_reducible rfl); (try simp only [Act.put, List.setIfInBounds_toArray, List.set_cons_zero, List.set_cons_succ, List.getElem_toArray, List.getElem_cons_succ, List.getElem_cons_zero])); (refine wpG_take (i := 7) (v := ?_) rfl (by kernel_rfl) (by kernel_rfl) (by kernel_rfl) (fun _ _ _ h => h) (F37) (Or.inl ⟨by rfl, ?_⟩) ?_; rotate_left; (intro wx hx; go_simp) <;> (with_reducible rfl); (try simp only [Act.put, List.setIfInBounds_toArray, List.set_cons_zero, List.set_cons_succ, List.getElem_toArray, List.getElem_cons_succ, List.getElem_cons_zero]))
          (refine wpG_take (i := 8) (v := _) rfl (by kernel_rfl) (by kernel_rfl) (by kernel_rfl) (fun _ _ _ h => h) (F37) (Or.inr ⟨rfl, rfl⟩) ?_; (try simp only [Act.put, List.setIfInBounds_toArray, List.set_cons_zero, List.set_cons_succ, List.getElem_toArray, List.getElem_cons_succ, List.getElem_cons_zero])); (refine wpG_take (i := 9) (v := _) rfl (by kernel_rfl) (by kernel_rfl) (by kernel_rfl) (fun _ _ _ h => h) (F37) (Or.inr ⟨rfl, rfl⟩) ?_; (try simp only [Act.put, List.setIfInBounds_toArray, List.set_cons_zero, List.set_cons_succ, List.getElem_toArray, List.getElem_cons_succ, List.getElem_cons_zero])); (refine wpG_take (i := 10) (v := _) rfl (by kernel_rfl) (by kernel_rfl) (by kernel_rfl) (fun _ _ _ h => h) (F37) (Or.inr ⟨rfl, rfl⟩) ?_; (try simp only [Act.put, List.setIfInBounds_toArray, List.set_cons_zero, List.set_cons_succ, List.getElem_toArray, List.getElem_cons_succ, List.getElem_cons_zero])); (refine wpG_take (i := 11) (v := _) rfl (by kernel_rfl) (by kernel_rfl) (by kernel_rfl) (fun _ _ _ h => h) (F37) (Or.inr ⟨rfl, rfl⟩) ?_; (try simp only [Act.put, List.setIfInBounds_toArray, List.set_cons_zero, List.set_cons_succ, List.getElem_toArray, List.getElem_cons_succ, List.getElem_cons_zero])); (refine wpG_take (i := 12) (v := _) rfl (by kernel_rfl) (by kernel_rfl) (by kernel_rfl) (fun _ _ _ h => h) (F37) (Or.inr ⟨rfl, rfl⟩) ?_; (try simp only [Act.put, List.setIfInBounds_toArray, List.set_cons_zero, List.set_cons_succ, List.getElem_toArray, List.getElem_cons_succ, List.getElem_cons_zero])); (refine wpG_take (i := 13) (v := _) rfl (by kernel_rfl) (by kernel_rfl) (by kernel_rfl) (fun _ _ _ h => h) (F37) (Or.inr ⟨rfl, rfl⟩) ?_; (try simp only [Act.put, List.setIfInBounds_toArray, List.set_cons_zero, List.set_cons_succ, List.getElem_toArray, List.getElem_cons_succ, List.getElem_cons_zero]))
          (refine wpG_take (i := 14) (v := ?_) rfl (by kernel_rfl) (by kernel_rfl) (by kernel_rfl) (fun _ _ _ h => h) (F37) (Or.inl ⟨by rfl, ?_⟩) ?_; rotate_left; (intro wx hx; go_simp) <;> (with_reducible rfl); (try simp only [Act.put, List.setIfInBounds_toArray, List.set_cons_zero, List.set_cons_succ, List.getElem_toArray, List.getElem_cons_succ, List.getElem_cons_zero])); (refine wpG_take (i := 15) (v := ?_) rfl (by kernel_rfl) (by kernel_rfl) (by kernel_rfl) (fun _ _ _ h => h) (F37) (Or.inl ⟨by rfl, ?_⟩) ?_; rotate_left; (intro wx hx; go_simp) <;> (with_reducible rfl); (try simp only [Act.put, List.setIfInBounds_toArray, List.set_cons_zero, List.set_cons_succ, List.getElem_toArray, List.getElem_cons_succ, List.getElem_cons_zero]))
          (refine wpG_one (i := 16) (by kernel_rfl) rfl ?_; intro K hK; (try simp only [Act.put, List.setIfInBounds_toArray, List.set_cons_zero, List.set_cons_succ, List.getElem_toArray, List.getElem_cons_succ, List.getElem_cons_zero]))
          refine step_call rfl rfl enAwake rfl (awake_any _) ?_
          rintro r w38 ⟨rfl, hb38⟩
          have F38 : From wx.drew w38 := bnx F37 hb38
          refine ⟨_, rfl, hK (From wx.drew) _ _ (fun _ h => h) F38 ?_⟩
          clear hK K hb38
          (try simp only [Act.put, List.setIfInBounds_toArray, List.set_cons_zero, List.set_cons_succ, List.getElem_toArray, List.getElem_cons_succ, List.getElem_cons_zero])
          (refine wpG_take (i := 17) (v := ?_) rfl (by kernel_rfl) (by kernel_rfl) (by kernel_rfl) (fun _ _ _ h => h) (F38) (Or.inl ⟨by rfl, ?_⟩) ?_; rotate_left; (intro wx hx; go_simp) <;> (with_reducible rfl); (try simp only [Act.put, List.setIfInBounds_toArray, List.set_cons_zero, List.set_cons_succ, List.getElem_toArray, List.getElem_cons_succ, List.getElem_cons_zero])); (refine wpG_take (i := 18) (v := ?_) rfl (by kernel_rfl) (by kernel_rfl) (by kernel_rfl) (fun _ _ _ h => h) (F38) (Or.inl ⟨by rfl, ?_⟩) ?_; rotate_left; (intro wx hx; go_simp) <;> (with_reducible rfl); (try simp only [Act.put, List.setIfInBounds_toArray, List.set_cons_zero, List.set_cons_succ, List.getElem_toArray, List.getElem_cons_succ, List.getElem_cons_zero]))
          refine wpG_done (by kernel_rfl) ?_ _
          clear p7_0 p7_1 p7_2 p7_3 p7_4 p10_0 p10_1 p10_2 p10_3 p10_4
          go_wp2_with fail
          go_ret
          exact ⟨rfl, (wxD.out.call F38).below⟩
        · have wxD := hide wxH.out.drew
          have p7_0 : ∀ z, From wx.drew z → z.cell? ⟨w3.heap.size, 0, none⟩ = some (.int .u64 (a1 : Int)) := fun z hz => by rw [hz.cell (p := ⟨w3.heap.size, 0, none⟩) (Chunk.lt (wxD.out.sat 3 _ rfl) rfl)]; exact wxD.out.cell 3 rfl 0
          have p7_1 : ∀ z, From wx.drew z → z.cell? ⟨w3.heap.size, 1, none⟩ = some (.int .u64 (b1 : Int)) := fun z hz => by rw [hz.cell (p := ⟨w3.heap.size, 1, none⟩) (Chunk.lt (wxD.out.sat 3 _ rfl) rfl)]; exact wxD.out.cell 3 rfl 1
          have p7_2 : ∀ z, From wx.drew z → z.cell? ⟨w3.heap.size, 2, none⟩ = some (.int .u64 (c1 : Int)) := fun z hz => by rw [hz.cell (p := ⟨w3.heap.size, 2, none⟩) (Chunk.lt (wxD.out.sat 3 _ rfl) rfl)]; exact wxD.out.cell 3 rfl 2
          have p7_3 : ∀ z, From wx.drew z → z.cell? ⟨w3.heap.size, 3, none⟩ = some (.int .u64 (e1 : Int)) := fun z hz => by rw [hz.cell (p := ⟨w3.heap.size, 3, none⟩) (Chunk.lt (wxD.out.sat 3 _ rfl) rfl)]; exact wxD.out.cell 3 rfl 3
          have p7_4 : ∀ z, From wx.drew z → z.cell? ⟨w3.heap.size, 4, none⟩ = some (.int .u64 (f1 : Int)) := fun z hz => by rw [hz.cell (p := ⟨w3.heap.size, 4, none⟩) (Chunk.lt (wxD.out.sat 3 _ rfl) rfl)]; exact wxD.out.cell 3 rfl 4
          have p10_0 : ∀ z, From wx.drew z → z.cell? ⟨w4.heap.size, 0, none⟩ = some (.int .u64 (a4 : Int)) := fun z hz => by rw [hz.cell (p := ⟨w4.heap.size, 0, none⟩) (Chunk.lt (wxD.out.sat 0 _ rfl) rfl)]; exact wxD.out.cell 0 rfl 0
          have p10_1 : ∀ z, From wx.drew z → z.cell? ⟨w4.heap.size, 1, none⟩ = some (.int .u64 (b4 : Int)) := fun z hz => by rw [hz.cell (p := ⟨w4.heap.size, 1, none⟩) (Chunk.lt (wxD.out.sat 0 _ rfl) rfl)]; exact wxD.out.cell 0 rfl 1
          have p10_2 : ∀ z, From wx.drew z → z.cell? ⟨w4.heap.size, 2, none⟩ = some (.int .u64 (c4 : Int)) := fun z hz => by rw [hz.cell (p := ⟨w4.heap.size, 2, none⟩) (Chunk.lt (wxD.out.sat 0 _ rfl) rfl)]; exact wxD.out.cell 0 rfl 2
          have p10_3 : ∀ z, From wx.drew z → z.cell? ⟨w4.heap.size, 3, none⟩ = some (.int .u64 (e4 : Int)) := fun z hz => by rw [hz.cell (p := ⟨w4.heap.size, 3, none⟩) (Chunk.lt (wxD.out.sat 0 _ rfl) rfl)]; exact wxD.out.cell 0 rfl 3
          have p10_4 : ∀ z, From wx.drew z → z.cell? ⟨w4.heap.size, 4, none⟩ = some (.int .u64 (f4 : Int)) := fun z hz => by rw [hz.cell (p := ⟨w4.heap.size, 4, none⟩) (Chunk.lt (wxD.out.sat 0 _ rfl) rfl)]; exact wxD.out.cell 0 rfl 4
          refine wp_region_F (by kernel_rfl) ?_
          (refine wpG_take (i := 0) (v := ?_) rfl (by kernel_rfl) (by kernel_rfl) (by kernel_rfl) (fun _ _ _ h => h) ((From.refl wx.drew)) (Or.inl ⟨by rfl, ?_⟩) ?_; rotate_left; (intro wx hx; go_simp) <;> (with_reducible rfl); (try simp only [Act.put, List.setIfInBounds_toArray, List.set_cons_zero, List.set_cons_succ, List.getElem_toArray, List.getElem_cons_succ, List.getElem_cons_zero]))
          (refine wpG_one (i := 1) (by kernel_rfl) rfl ?_; intro K hK; (try simp only [Act.put, List.setIfInBounds_toArray, List.set_cons_zero, List.set_cons_succ, List.getElem_toArray, List.getElem_cons_succ, List.getElem_cons_zero]))
          refine step_call rfl rfl enIsZero rfl (zeroF hv1 hd1 h0) ?_
          rintro r w35 ⟨rfl, hb35⟩
          have F35 : From wx.drew w35 := bnx (From.refl wx.drew) hb35
          refine ⟨_, rfl, hK (From wx.drew) _ _ (fun _ h => h) F35 ?_⟩
          clear hK K hb35
          (try simp only [Act.put, List.setIfInBounds_toArray, List.set_cons_zero, List.set_cons_succ, List.getElem_toArray, List.getElem_cons_succ, List.getElem_cons_zero])
          (refine wpG_take (i := 2) (v := ?_) rfl (by kernel_rfl) (by kernel_rfl) (by kernel_rfl) (fun _ _ _ h => h) (F35) (Or.inl ⟨by rfl, ?_⟩) ?_; rotate_left; (intro wx hx; go_simp) <;> (with_reducible rfl); (try simp only [Act.put, List.setIfInBounds_toArray, List.set_cons_zero, List.set_cons_succ, List.getElem_toArray, List.getElem_cons_succ, List.getElem_cons_zero]))
          (refine wpG_take (i := 3) (v := _) rfl (by kernel_rfl) (by kernel_rfl) (by kernel_rfl) (fun _ _ _ h => h) (F35) (Or.inr ⟨rfl, rfl⟩) ?_; (try simp only [Act.put, List.setIfInBounds_toArray, List.set_cons_zero, List.set_cons_succ, List.getElem_toArray, List.getElem_cons_succ, List.getElem_cons_zero])); (refine wpG_take (i := 4) (v := _) rfl (by kernel_rfl) (by kernel_rfl) (by kernel_rfl) (fun _ _ _ h => h) (F35) (Or.inr ⟨rfl, rfl⟩) ?_; (try simp only [Act.put, List.setIfInBounds_toArray, List.set_cons_zero, List.set_cons_succ, List.getElem_toArray, List.getElem_cons_succ, List.getElem_cons_zero])); (refine wpG_take (i := 5) (v := _) rfl (by kernel_rfl) (by kernel_rfl) (by kernel_rfl) (fun _ _ _ h => h) (F35) (Or.inr ⟨rfl, rfl⟩) ?_; (try simp only [Act.put, List.setIfInBounds_toArray, List.set_cons_zero, List.set_cons_succ, List.getElem_toArray, List.getElem_cons_succ, List.getElem_cons_zero]))
          (refine wpG_take (i := 6) (v := ?_) rfl (by kernel_rfl) (by kernel_rfl) (by kernel_rfl) (fun _ _ _ h => h) (F35) (Or.inl ⟨by rfl, ?_⟩) ?_; rotate_left; (intro wx hx; go_simp) <;> (with_reducible rfl); (try simp only [Act.put, List.setIfInBounds_toArray, List.set_cons_zero, List.set_cons_succ, List.getElem_toArray, List.getElem_cons_succ, List.getElem_cons_zero])); (refine wpG_take (i := 7) (v := ?_) rfl (by kernel_rfl) (by kernel_rfl) (by kernel_rfl) (fun _ _ _ h => h) (F35) (Or.inl ⟨by rfl, ?_⟩) ?_; rotate_left; (intro wx hx; go_simp) <;> (with_reducible rfl); (try simp only [Act.put, List.setIfInBounds_toArray, List.set_cons_zero, List.set_cons_succ, List.getElem_toArray, List.getElem_cons_succ, List.getElem_cons_zero])); (refine wpG_take (i := 8) (v := ?_) rfl (by kernel_rfl) (by kernel_rfl) (by kernel_rfl) (fun _ _ _ h => h) (F35) (Or.inl ⟨by rfl, ?_⟩) ?_; rotate_left; (intro wx hx; go_simp) <;> (with_reducible rfl); (try simp only [Act.put, List.setIfInBounds_toArray, List.set_cons_zero, List.set_cons_succ, List.getElem_toArray, List.getElem_cons_succ, List.getElem_cons_zero])); (refine wpG_take (i := 9) (v := ?_) rfl (by kernel_rfl) (by kernel_rfl) (by kernel_rfl) (fun _ _ _ h => h) (F35) (Or.inl ⟨by rfl, ?_⟩) ?_; rotate_left; (intro wx hx; go_simp) <;> (with_reducible rfl); (try simp only [Act.put, List.setIfInBounds_toArray, List.set_cons_zero, List.set_cons_succ, List.getElem_toArray, List.getElem_cons_succ, List.getElem_cons_zero])); (refine wpG_take (i := 12) (v := ?_) rfl (by kernel_rfl) (by kernel_rfl) (by kernel_rfl) (fun _ _ _ h => h) (F35) (Or.inl ⟨by rfl, ?_⟩) ?_; rotate_left; (intro wx hx; go_simp) <;> (with_reducible rfl); (try simp only [Act.put, List.setIfInBounds_toArray, List.set_cons_zero, List.set_cons_succ, List.getElem_toArray, List.getElem_cons_succ, List.getElem_cons_zero]))
          (refine wpG_one (i := 10) (by kernel_rfl) rfl ?_; intro K hK; (try simp only [Act.put, List.setIfInBounds_toArray, List.set_cons_zero, List.set_cons_succ, List.getElem_toArray, List.getElem_cons_succ, List.getElem_cons_zero]))
          refine step_call rfl rfl enEInv rfl (invE hv1 hd1) ?_
          rintro r w36 ⟨a36, b36, c36, e36, f36, hv36, hd36, rfl, hb36⟩
          have F36 : From wx.drew w36 := bnx F35 hb36
          refine ⟨_, rfl, hK (From wx.drew) _ _ (fun _ h => h) F36 ?_⟩
          clear hK K hb36
          (try simp only [Act.put, List.setIfInBounds_toArray, List.set_cons_zero, List.set_cons_succ, List.getElem_toArray, List.getElem_cons_succ, List.getElem_cons_zero])
          (refine wpG_one (i := 11) (by kernel_rfl) rfl ?_; intro K hK; (try simp only [Act.put, List.setIfInBounds_toArray, List.set_cons_zero, List.set_cons_succ, List.getElem_toArray, List.getElem_cons_succ, List.getElem_cons_zero]))
          refine step_call rfl rfl enEMul rfl (mulE hv1 hd1 hv36 hd36) ?_
          rintro r w37 ⟨a37, b37, c37, e37, f37, hv37, hd37, rfl, hb37⟩
          have F37 : From wx.drew w37 := bnx F36 hb37
          refine ⟨_, rfl, hK (From wx.drew) _ _ (fun _ h => h) F37 ?_⟩
          clear hK K hb37
          (try simp only [Act.put, List.setIfInBounds_toArray, List.set_cons_zero, List.set_cons_succ, List.getElem_toArray, List.getElem_cons_succ, List.getElem_cons_zero])
          (refine wpG_one (i := 13) (by kernel_rfl) rfl ?_; intro K hK; (try simp only [Act.put, List.setIfInBounds_toArray, List.set_cons_zero, List.set_cons_succ, List.getElem_toArray, List.getElem_cons_succ, List.getElem_cons_zero]))
          refine step_call rfl rfl enSame rfl (sameT hv37 hd37 hv4 hd4 (fk_inv _ h0)) ?_
          rintro r w38 ⟨rfl, hb38⟩
          have F38 : From wx.drew w38 := bnx F37 hb38
          refine ⟨_, rfl, hK (From wx.drew) _ _ (fun _ h => h) F38 ?_⟩
          clear hK K hb38
          (try simp only [Act.put, List.setIfInBounds_toArray, List.set_cons_zero, List.set_cons_succ, List.getElem_toArray, List.getElem_cons_succ, List.getElem_cons_zero])
          (refine wpG_take (i := 14) (v := ?_) rfl (by kernel_rfl) (by kernel_rfl) (by kernel_rfl) (fun _ _ _ h => h) (F38) (Or.inl ⟨by rfl, ?_⟩) ?_; rotate_left; (intro wx hx; go_simp) <;> (with_reducible rfl); (try simp only [Act.put, List.setIfInBounds_toArray, List.set_cons_zero, List.set_cons_succ, List.getElem_toArray, List.getElem_cons_succ, List.getElem_cons_zero])); (refine wpG_take (i := 15) (v := ?_) rfl (by kernel_rfl) (by kernel_rfl) (by kernel_rfl) (fun _ _ _ h => h) (F38) (Or.inl ⟨by rfl, ?_⟩) ?_; rotate_left; (intro wx hx; go_simp) <;> (with_reducible rfl); (try simp only [Act.put, List.setIfInBounds_toArray, List.set_cons_zero, List.set_cons_succ, List.getElem_toArray, List.getElem_cons_succ, List.getElem_cons_zero]))
          (refine wpG_one (i := 16) (by kernel_rfl) rfl ?_; intro K hK; (try simp only [Act.put, List.setIfInBounds_toArray, List.set_cons_zero, List.set_cons_succ, List.getElem_toArray, List.getElem_cons_succ, List.getElem_cons_zero]))
          refine step_call rfl rfl enAwake rfl (awake_any _) ?_
          rintro r w39 ⟨rfl, hb39⟩
          have F39 : From wx.drew w39 := bnx F38 hb39
          refine ⟨_, rfl, hK (From wx.drew) _ _ (fun _ h => h) F39 ?_⟩
          clear hK K hb39
          (try simp only [Act.put, List.setIfInBounds_toArray, List.set_cons_zero, List.set_cons_succ, List.getElem_toArray, List.getElem_cons_succ, List.getElem_cons_zero])
          (refine wpG_take (i := 17) (v := ?_) rfl (by kernel_rfl) (by kernel_rfl) (by kernel_rfl) (fun _ _ _ h => h) (F39) (Or.inl ⟨by rfl, ?_⟩) ?_; rotate_left; (intro wx hx; go_simp) <;> (with_reducible rfl); (try simp only [Act.put, List.setIfInBounds_toArray, List.set_cons_zero, List.set_cons_succ, List.getElem_toArray, List.getElem_cons_succ, List.getElem_cons_zero])); (refine wpG_take (i := 18) (v := ?_) rfl (by kernel_rfl) (by kernel_rfl) (by kernel_rfl) (fun _ _ _ h => h) (F39) (Or.inl ⟨by rfl, ?_⟩) ?_; rotate_left; (intro wx hx; go_simp) <;> (with_reducible rfl); (try simp only [Act.put, List.setIfInBounds_toArray, List.set_cons_zero, List.set_cons_succ, List.getElem_toArray, List.getElem_cons_succ, List.getElem_cons_zero]))
          refine wpG_done (by kernel_rfl) ?_ _
          clear p7_0 p7_1 p7_2 p7_3 p7_4 p10_0 p10_1 p10_2 p10_3 p10_4
          go_wp2_with fail
          go_ret
          exact ⟨rfl, (wxD.out.call F39).below⟩
end Go.Proofs.Ytdihedhhkcakoaa
