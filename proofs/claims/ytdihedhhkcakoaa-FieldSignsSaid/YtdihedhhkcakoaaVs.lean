/-
  The walk of FieldSigns.
-/
import Derived.Test.YtdihedhhkcakoaaFm
namespace Go.Proofs.Ytdihedhhkcakoaa
open Go.RowKit
set_option linter.unusedSimpArgs false

set_option maxRecDepth 100000 in
set_option maxHeartbeats 1600000 in
theorem fieldSigns_walk (A1 A2 : Option Addr) (q1 q2 : Nat) (l1 l2 : List UInt8) (w : World) (hr1 : Rd w (.slice A1 l1.length q1) 1 l1.length (bvs l1)) (hr2 : Rd w (.slice A2 l2.length q2) 1 l2.length (bvs l2)) :
    Calls Try.prog 5 #[.slice A1 l1.length q1, .slice A2 l2.length q2] w fun e w' => e = .returned (.bool true) ∧ Below w.heap.size w w' := by
  have HR1 := hide hr1
  have HR2 := hide hr2
  obtain ⟨n1, hn1⟩ : ∃ n, n = l1.length := ⟨_, rfl⟩
  rw [← hn1] at HR1 ⊢
  obtain ⟨n2, hn2⟩ : ∃ n, n = l2.length := ⟨_, rfl⟩
  rw [← hn2] at HR2 ⊢
  have HL1 := hide hn1.symm
  have HL2 := hide hn2.symm
  clear hr1 hn1 hr2 hn2
  by_cases h1 : n1 > 100
  · have d1 : decide (100 < (n1 : Int)) = true := by simp; omega
    clear h1
    go_enter Try.func5, Try.ntmps5
    go_wp2_with (go_at_call 9; refine (awake_any _).mono ?_; rintro e w1 ⟨rfl, hb1⟩)
    go_ret
    exact ⟨rfl, hb1⟩
  · have d1 : decide (100 < (n1 : Int)) = false := by simp; omega
    have k1 := hide h1
    by_cases h2 : n2 > 100
    · have d2 : decide (100 < (n2 : Int)) = true := by simp; omega
      clear h1 h2
      go_enter Try.func5, Try.ntmps5
      go_wp2_with (go_at_call 9; refine (awake_any _).mono ?_; rintro e w1 ⟨rfl, hb1⟩)
      go_ret
      exact ⟨rfl, hb1⟩
    · have d2 : decide (100 < (n2 : Int)) = false := by simp; omega
      have k2 := hide h2
      clear h1 h2
      go_enter Try.func5, Try.ntmps5
      go_upto_region 4 with (first
        | (have _q := hb1; go_at_call 10; refine (fromE HL2.out (by have := k2.out; omega) (HR2.out.below hb1)).mono ?_; rintro r w2 ⟨a2, b2, c2, e2, f2, hv2, hd2, rfl, hb2⟩)
        | (go_at_call 10; refine (fromE HL1.out (by have := k1.out; omega) HR1.out).mono ?_; rintro r w1 ⟨a1, b1, c1, e1, f1, hv1, hd1, rfl, hb1⟩))
      have wzS := (((((St.init w NoB).call hb1).call hb2).alloc #[.int .u64 (a1 : Int), .int .u64 (b1 : Int), .int .u64 (c1 : Int), .int .u64 (e1 : Int), .int .u64 (f1 : Int)] 27).alloc #[.int .u64 (a2 : Int), .int .u64 (b2 : Int), .int .u64 (c2 : Int), .int .u64 (e2 : Int), .int .u64 (f2 : Int)] 27)
      try simp only [size_alloc1] at wzS
      generalize ((w2.alloc (.cells #[.int .u64 (a1 : Int), .int .u64 (b1 : Int), .int .u64 (c1 : Int), .int .u64 (e1 : Int), .int .u64 (f1 : Int)] 27)).alloc (.cells #[.int .u64 (a2 : Int), .int .u64 (b2 : Int), .int .u64 (c2 : Int), .int .u64 (e2 : Int), .int .u64 (f2 : Int)] 27)) = wz at wzS ⊢
      have wzH := hide wzS
      clear wzS
      by_cases h0 : fbytes l1 = 0
      · have wzD := hide wzH.out.drew
        have p5_0 : ∀ z, From wz.drew z → z.cell? ⟨w2.heap.size, 0, none⟩ = some (.int .u64 (a1 : Int)) := fun z hz => by rw [hz.cell (p := ⟨w2.heap.size, 0, none⟩) (Chunk.lt (wzD.out.sat 1 _ rfl) rfl)]; exact wzD.out.cell 1 rfl 0
        have p5_1 : ∀ z, From wz.drew z → z.cell? ⟨w2.heap.size, 1, none⟩ = some (.int .u64 (b1 : Int)) := fun z hz => by rw [hz.cell (p := ⟨w2.heap.size, 1, none⟩) (Chunk.lt (wzD.out.sat 1 _ rfl) rfl)]; exact wzD.out.cell 1 rfl 1
        have p5_2 : ∀ z, From wz.drew z → z.cell? ⟨w2.heap.size, 2, none⟩ = some (.int .u64 (c1 : Int)) := fun z hz => by rw [hz.cell (p := ⟨w2.heap.size, 2, none⟩) (Chunk.lt (wzD.out.sat 1 _ rfl) rfl)]; exact wzD.out.cell 1 rfl 2
        have p5_3 : ∀ z, From wz.drew z → z.cell? ⟨w2.heap.size, 3, none⟩ = some (.int .u64 (e1 : Int)) := fun z hz => by rw [hz.cell (p := ⟨w2.heap.size, 3, none⟩) (Chunk.lt (wzD.out.sat 1 _ rfl) rfl)]; exact wzD.out.cell 1 rfl 3
        have p5_4 : ∀ z, From wz.drew z → z.cell? ⟨w2.heap.size, 4, none⟩ = some (.int .u64 (f1 : Int)) := fun z hz => by rw [hz.cell (p := ⟨w2.heap.size, 4, none⟩) (Chunk.lt (wzD.out.sat 1 _ rfl) rfl)]; exact wzD.out.cell 1 rfl 4
        have p6_0 : ∀ z, From wz.drew z → z.cell? ⟨w2.heap.size + 1, 0, none⟩ = some (.int .u64 (a2 : Int)) := fun z hz => by rw [hz.cell (p := ⟨w2.heap.size + 1, 0, none⟩) (Chunk.lt (wzD.out.sat 0 _ rfl) rfl)]; exact wzD.out.cell 0 rfl 0
        have p6_1 : ∀ z, From wz.drew z → z.cell? ⟨w2.heap.size + 1, 1, none⟩ = some (.int .u64 (b2 : Int)) := fun z hz => by rw [hz.cell (p := ⟨w2.heap.size + 1, 1, none⟩) (Chunk.lt (wzD.out.sat 0 _ rfl) rfl)]; exact wzD.out.cell 0 rfl 1
        have p6_2 : ∀ z, From wz.drew z → z.cell? ⟨w2.heap.size + 1, 2, none⟩ = some (.int .u64 (c2 : Int)) := fun z hz => by rw [hz.cell (p := ⟨w2.heap.size + 1, 2, none⟩) (Chunk.lt (wzD.out.sat 0 _ rfl) rfl)]; exact wzD.out.cell 0 rfl 2
        have p6_3 : ∀ z, From wz.drew z → z.cell? ⟨w2.heap.size + 1, 3, none⟩ = some (.int .u64 (e2 : Int)) := fun z hz => by rw [hz.cell (p := ⟨w2.heap.size + 1, 3, none⟩) (Chunk.lt (wzD.out.sat 0 _ rfl) rfl)]; exact wzD.out.cell 0 rfl 3
        have p6_4 : ∀ z, From wz.drew z → z.cell? ⟨w2.heap.size + 1, 4, none⟩ = some (.int .u64 (f2 : Int)) := fun z hz => by rw [hz.cell (p := ⟨w2.heap.size + 1, 4, none⟩) (Chunk.lt (wzD.out.sat 0 _ rfl) rfl)]; exact wzD.out.cell 0 rfl 4
        refine wp_region_F (by kernel_rfl) ?_
        (refine wpG_take (i := 0) (v := ?_) rfl (by kernel_rfl) (by kernel_rfl) (by kernel_rfl) (fun _ _ _ h => h) ((From.refl wz.drew)) (Or.inl ⟨by rfl, ?_⟩) ?_; rotate_left; (intro wx hx; go_simp) <;> (with_reducible rfl); (try simp only [Act.put, List.setIfInBounds_toArray, List.set_cons_zero, List.set_cons_succ, List.getElem_toArray, List.getElem_cons_succ, List.getElem_cons_zero])); (refine wpG_take (i := 3) (v := ?_) rfl (by kernel_rfl) (by kernel_rfl) (by kernel_rfl) (fun _ _ _ h => h) ((From.refl wz.drew)) (Or.inl ⟨by rfl, ?_⟩) ?_; rotate_left; (intro wx hx; go_simp) <;> (with_reducible rfl); (try simp only [Act.put, List.setIfInBounds_toArray, List.set_cons_zero, List.set_cons_succ, List.getElem_toArray, List.getElem_cons_succ, List.getElem_cons_zero]))
        (refine wpG_one (i := 1) (by kernel_rfl) rfl ?_; intro K hK; (try simp only [Act.put, List.setIfInBounds_toArray, List.set_cons_zero, List.set_cons_succ, List.getElem_toArray, List.getElem_cons_succ, List.getElem_cons_zero]))
        refine step_call rfl rfl enENeg rfl (negE hv1 hd1) ?_
        rintro r w3 ⟨a3, b3, c3, e3, f3, hv3, hd3, rfl, hb3⟩
        have F3 : From wz.drew w3 := bnx (From.refl wz.drew) hb3
        refine ⟨_, rfl, hK (From wz.drew) _ _ (fun _ h => h) F3 ?_⟩
        clear hK K hb3
        (try simp only [Act.put, List.setIfInBounds_toArray, List.set_cons_zero, List.set_cons_succ, List.getElem_toArray, List.getElem_cons_succ, List.getElem_cons_zero])
        (refine wpG_one (i := 2) (by kernel_rfl) rfl ?_; intro K hK; (try simp only [Act.put, List.setIfInBounds_toArray, List.set_cons_zero, List.set_cons_succ, List.getElem_toArray, List.getElem_cons_succ, List.getElem_cons_zero]))
        refine step_call rfl rfl enENeg rfl (negE hv3 hd3) ?_
        rintro r w4 ⟨a4, b4, c4, e4, f4, hv4, hd4, rfl, hb4⟩
        have F4 : From wz.drew w4 := bnx F3 hb4
        refine ⟨_, rfl, hK (From wz.drew) _ _ (fun _ h => h) F4 ?_⟩
        clear hK K hb4
        (try simp only [Act.put, List.setIfInBounds_toArray, List.set_cons_zero, List.set_cons_succ, List.getElem_toArray, List.getElem_cons_succ, List.getElem_cons_zero])
        (refine wpG_one (i := 4) (by kernel_rfl) rfl ?_; intro K hK; (try simp only [Act.put, List.setIfInBounds_toArray, List.set_cons_zero, List.set_cons_succ, List.getElem_toArray, List.getElem_cons_succ, List.getElem_cons_zero]))
        refine step_call rfl rfl enSame rfl (sameT hv4 hd4 hv1 hd1 (fl9 _)) ?_
        rintro r w5 ⟨rfl, hb5⟩
        have F5 : From wz.drew w5 := bnx F4 hb5
        refine ⟨_, rfl, hK (From wz.drew) _ _ (fun _ h => h) F5 ?_⟩
        clear hK K hb5
        (try simp only [Act.put, List.setIfInBounds_toArray, List.set_cons_zero, List.set_cons_succ, List.getElem_toArray, List.getElem_cons_succ, List.getElem_cons_zero])
        (refine wpG_take (i := 5) (v := ?_) rfl (by kernel_rfl) (by kernel_rfl) (by kernel_rfl) (fun _ _ _ h => h) (F5) (Or.inl ⟨by rfl, ?_⟩) ?_; rotate_left; (intro wx hx; go_simp) <;> (with_reducible rfl); (try simp only [Act.put, List.setIfInBounds_toArray, List.set_cons_zero, List.set_cons_succ, List.getElem_toArray, List.getElem_cons_succ, List.getElem_cons_zero])); (refine wpG_take (i := 6) (v := ?_) rfl (by kernel_rfl) (by kernel_rfl) (by kernel_rfl) (fun _ _ _ h => h) (F5) (Or.inl ⟨by rfl, ?_⟩) ?_; rotate_left; (intro wx hx; go_simp) <;> (with_reducible rfl); (try simp only [Act.put, List.setIfInBounds_toArray, List.set_cons_zero, List.set_cons_succ, List.getElem_toArray, List.getElem_cons_succ, List.getElem_cons_zero]))
        (refine wpG_one (i := 7) (by kernel_rfl) rfl ?_; intro K hK; (try simp only [Act.put, List.setIfInBounds_toArray, List.set_cons_zero, List.set_cons_succ, List.getElem_toArray, List.getElem_cons_succ, List.getElem_cons_zero]))
        refine step_call rfl rfl enIsZero rfl (zeroT hv1 hd1 h0) ?_
        rintro r w6 ⟨rfl, hb6⟩
        have F6 : From wz.drew w6 := bnx F5 hb6
        refine ⟨_, rfl, hK (From wz.drew) _ _ (fun _ h => h) F6 ?_⟩
        clear hK K hb6
        (try simp only [Act.put, List.setIfInBounds_toArray, List.set_cons_zero, List.set_cons_succ, List.getElem_toArray, List.getElem_cons_succ, List.getElem_cons_zero])
        (refine wpG_take (i := 8) (v := ?_) rfl (by kernel_rfl) (by kernel_rfl) (by kernel_rfl) (fun _ _ _ h => h) (F6) (Or.inl ⟨by rfl, ?_⟩) ?_; rotate_left; (intro wx hx; go_simp) <;> (with_reducible rfl); (try simp only [Act.put, List.setIfInBounds_toArray, List.set_cons_zero, List.set_cons_succ, List.getElem_toArray, List.getElem_cons_succ, List.getElem_cons_zero]))
        (refine wpG_take (i := 9) (v := _) rfl (by kernel_rfl) (by kernel_rfl) (by kernel_rfl) (fun _ _ _ h => h) (F6) (Or.inr ⟨rfl, rfl⟩) ?_; (try simp only [Act.put, List.setIfInBounds_toArray, List.set_cons_zero, List.set_cons_succ, List.getElem_toArray, List.getElem_cons_succ, List.getElem_cons_zero])); (refine wpG_take (i := 10) (v := _) rfl (by kernel_rfl) (by kernel_rfl) (by kernel_rfl) (fun _ _ _ h => h) (F6) (Or.inr ⟨rfl, rfl⟩) ?_; (try simp only [Act.put, List.setIfInBounds_toArray, List.set_cons_zero, List.set_cons_succ, List.getElem_toArray, List.getElem_cons_succ, List.getElem_cons_zero])); (refine wpG_take (i := 11) (v := _) rfl (by kernel_rfl) (by kernel_rfl) (by kernel_rfl) (fun _ _ _ h => h) (F6) (Or.inr ⟨rfl, rfl⟩) ?_; (try simp only [Act.put, List.setIfInBounds_toArray, List.set_cons_zero, List.set_cons_succ, List.getElem_toArray, List.getElem_cons_succ, List.getElem_cons_zero])); (refine wpG_take (i := 12) (v := _) rfl (by kernel_rfl) (by kernel_rfl) (by kernel_rfl) (fun _ _ _ h => h) (F6) (Or.inr ⟨rfl, rfl⟩) ?_; (try simp only [Act.put, List.setIfInBounds_toArray, List.set_cons_zero, List.set_cons_succ, List.getElem_toArray, List.getElem_cons_succ, List.getElem_cons_zero])); (refine wpG_take (i := 13) (v := _) rfl (by kernel_rfl) (by kernel_rfl) (by kernel_rfl) (fun _ _ _ h => h) (F6) (Or.inr ⟨rfl, rfl⟩) ?_; (try simp only [Act.put, List.setIfInBounds_toArray, List.set_cons_zero, List.set_cons_succ, List.getElem_toArray, List.getElem_cons_succ, List.getElem_cons_zero])); (refine wpG_take (i := 14) (v := _) rfl (by kernel_rfl) (by kernel_rfl) (by kernel_rfl) (fun _ _ _ h => h) (F6) (Or.inr ⟨rfl, rfl⟩) ?_; (try simp only [Act.put, List.setIfInBounds_toArray, List.set_cons_zero, List.set_cons_succ, List.getElem_toArray, List.getElem_cons_succ, List.getElem_cons_zero]))
        (refine wpG_take (i := 15) (v := ?_) rfl (by kernel_rfl) (by kernel_rfl) (by kernel_rfl) (fun _ _ _ h => h) (F6) (Or.inl ⟨by rfl, ?_⟩) ?_; rotate_left; (intro wx hx; go_simp) <;> (with_reducible rfl); (try simp only [Act.put, List.setIfInBounds_toArray, List.set_cons_zero, List.set_cons_succ, List.getElem_toArray, List.getElem_cons_succ, List.getElem_cons_zero])); (refine wpG_take (i := 16) (v := ?_) rfl (by kernel_rfl) (by kernel_rfl) (by kernel_rfl) (fun _ _ _ h => h) (F6) (Or.inl ⟨by rfl, ?_⟩) ?_; rotate_left; (intro wx hx; go_simp) <;> (with_reducible rfl); (try simp only [Act.put, List.setIfInBounds_toArray, List.set_cons_zero, List.set_cons_succ, List.getElem_toArray, List.getElem_cons_succ, List.getElem_cons_zero])); (refine wpG_take (i := 17) (v := ?_) rfl (by kernel_rfl) (by kernel_rfl) (by kernel_rfl) (fun _ _ _ h => h) (F6) (Or.inl ⟨by rfl, ?_⟩) ?_; rotate_left; (intro wx hx; go_simp) <;> (with_reducible rfl); (try simp only [Act.put, List.setIfInBounds_toArray, List.set_cons_zero, List.set_cons_succ, List.getElem_toArray, List.getElem_cons_succ, List.getElem_cons_zero])); (refine wpG_take (i := 18) (v := ?_) rfl (by kernel_rfl) (by kernel_rfl) (by kernel_rfl) (fun _ _ _ h => h) (F6) (Or.inl ⟨by rfl, ?_⟩) ?_; rotate_left; (intro wx hx; go_simp) <;> (with_reducible rfl); (try simp only [Act.put, List.setIfInBounds_toArray, List.set_cons_zero, List.set_cons_succ, List.getElem_toArray, List.getElem_cons_succ, List.getElem_cons_zero])); (refine wpG_take (i := 20) (v := ?_) rfl (by kernel_rfl) (by kernel_rfl) (by kernel_rfl) (fun _ _ _ h => h) (F6) (Or.inl ⟨by rfl, ?_⟩) ?_; rotate_left; (intro wx hx; go_simp) <;> (with_reducible rfl); (try simp only [Act.put, List.setIfInBounds_toArray, List.set_cons_zero, List.set_cons_succ, List.getElem_toArray, List.getElem_cons_succ, List.getElem_cons_zero])); (refine wpG_take (i := 23) (v := ?_) rfl (by kernel_rfl) (by kernel_rfl) (by kernel_rfl) (fun _ _ _ h => h) (F6) (Or.inl ⟨by rfl, ?_⟩) ?_; rotate_left; (intro wx hx; go_simp) <;> (with_reducible rfl); (try simp only [Act.put, List.setIfInBounds_toArray, List.set_cons_zero, List.set_cons_succ, List.getElem_toArray, List.getElem_cons_succ, List.getElem_cons_zero])); (refine wpG_take (i := 24) (v := ?_) rfl (by kernel_rfl) (by kernel_rfl) (by kernel_rfl) (fun _ _ _ h => h) (F6) (Or.inl ⟨by rfl, ?_⟩) ?_; rotate_left; (intro wx hx; go_simp) <;> (with_reducible rfl); (try simp only [Act.put, List.setIfInBounds_toArray, List.set_cons_zero, List.set_cons_succ, List.getElem_toArray, List.getElem_cons_succ, List.getElem_cons_zero]))
        (refine wpG_one (i := 19) (by kernel_rfl) rfl ?_; intro K hK; (try simp only [Act.put, List.setIfInBounds_toArray, List.set_cons_zero, List.set_cons_succ, List.getElem_toArray, List.getElem_cons_succ, List.getElem_cons_zero]))
        refine step_call rfl rfl enENeg rfl (negE hv1 hd1) ?_
        rintro r w7 ⟨a7, b7, c7, e7, f7, hv7, hd7, rfl, hb7⟩
        have F7 : From wz.drew w7 := bnx F6 hb7
        refine ⟨_, rfl, hK (From wz.drew) _ _ (fun _ h => h) F7 ?_⟩
        clear hK K hb7
        (try simp only [Act.put, List.setIfInBounds_toArray, List.set_cons_zero, List.set_cons_succ, List.getElem_toArray, List.getElem_cons_succ, List.getElem_cons_zero])
        (refine wpG_one (i := 21) (by kernel_rfl) rfl ?_; intro K hK; (try simp only [Act.put, List.setIfInBounds_toArray, List.set_cons_zero, List.set_cons_succ, List.getElem_toArray, List.getElem_cons_succ, List.getElem_cons_zero]))
        refine step_call rfl rfl enENeg rfl (negE hv2 hd2) ?_
        rintro r w8 ⟨a8, b8, c8, e8, f8, hv8, hd8, rfl, hb8⟩
        have F8 : From wz.drew w8 := bnx F7 hb8
        refine ⟨_, rfl, hK (From wz.drew) _ _ (fun _ h => h) F8 ?_⟩
        clear hK K hb8
        (try simp only [Act.put, List.setIfInBounds_toArray, List.set_cons_zero, List.set_cons_succ, List.getElem_toArray, List.getElem_cons_succ, List.getElem_cons_zero])
        (refine wpG_one (i := 22) (by kernel_rfl) rfl ?_; intro K hK; (try simp only [Act.put, List.setIfInBounds_toArray, List.set_cons_zero, List.set_cons_succ, List.getElem_toArray, List.getElem_cons_succ, List.getElem_cons_zero]))
        refine step_call rfl rfl enEMul rfl (mulE hv7 hd7 hv8 hd8) ?_
        rintro r w9 ⟨a9, b9, c9, e9, f9, hv9, hd9, rfl, hb9⟩
        have F9 : From wz.drew w9 := bnx F8 hb9
        refine ⟨_, rfl, hK (From wz.drew) _ _ (fun _ h => h) F9 ?_⟩
        clear hK K hb9
        (try simp only [Act.put, List.setIfInBounds_toArray, List.set_cons_zero, List.set_cons_succ, List.getElem_toArray, List.getElem_cons_succ, List.getElem_cons_zero])
        (refine wpG_one (i := 25) (by kernel_rfl) rfl ?_; intro K hK; (try simp only [Act.put, List.setIfInBounds_toArray, List.set_cons_zero, List.set_cons_succ, List.getElem_toArray, List.getElem_cons_succ, List.getElem_cons_zero]))
        refine step_call rfl rfl enEMul rfl (mulE hv1 hd1 hv2 hd2) ?_
        rintro r w10 ⟨a10, b10, c10, e10, f10, hv10, hd10, rfl, hb10⟩
        have F10 : From wz.drew w10 := bnx F9 hb10
        refine ⟨_, rfl, hK (From wz.drew) _ _ (fun _ h => h) F10 ?_⟩
        clear hK K hb10
        (try simp only [Act.put, List.setIfInBounds_toArray, List.set_cons_zero, List.set_cons_succ, List.getElem_toArray, List.getElem_cons_succ, List.getElem_cons_zero])
        (refine wpG_one (i := 26) (by kernel_rfl) rfl ?_; intro K hK; (try simp only [Act.put, List.setIfInBounds_toArray, List.set_cons_zero, List.set_cons_succ, List.getElem_toArray, List.getElem_cons_succ, List.getElem_cons_zero]))
        refine step_call rfl rfl enSame rfl (sameT hv9 hd9 hv10 hd10 (fl10 _ _)) ?_
        rintro r w11 ⟨rfl, hb11⟩
        have F11 : From wz.drew w11 := bnx F10 hb11
        refine ⟨_, rfl, hK (From wz.drew) _ _ (fun _ h => h) F11 ?_⟩
        clear hK K hb11
        (try simp only [Act.put, List.setIfInBounds_toArray, List.set_cons_zero, List.set_cons_succ, List.getElem_toArray, List.getElem_cons_succ, List.getElem_cons_zero])
        (refine wpG_take (i := 27) (v := ?_) rfl (by kernel_rfl) (by kernel_rfl) (by kernel_rfl) (fun _ _ _ h => h) (F11) (Or.inl ⟨by rfl, ?_⟩) ?_; rotate_left; (intro wx hx; go_simp) <;> (with_reducible rfl); (try simp only [Act.put, List.setIfInBounds_toArray, List.set_cons_zero, List.set_cons_succ, List.getElem_toArray, List.getElem_cons_succ, List.getElem_cons_zero])); (refine wpG_take (i := 28) (v := ?_) rfl (by kernel_rfl) (by kernel_rfl) (by kernel_rfl) (fun _ _ _ h => h) (F11) (Or.inl ⟨by rfl, ?_⟩) ?_; rotate_left; (intro wx hx; go_simp) <;> (with_reducible rfl); (try simp only [Act.put, List.setIfInBounds_toArray, List.set_cons_zero, List.set_cons_succ, List.getElem_toArray, List.getElem_cons_succ, List.getElem_cons_zero])); (refine wpG_take (i := 29) (v := ?_) rfl (by kernel_rfl) (by kernel_rfl) (by kernel_rfl) (fun _ _ _ h => h) (F11) (Or.inl ⟨by rfl, ?_⟩) ?_; rotate_left; (intro wx hx; go_simp) <;> (with_reducible rfl); (try simp only [Act.put, List.setIfInBounds_toArray, List.set_cons_zero, List.set_cons_succ, List.getElem_toArray, List.getElem_cons_succ, List.getElem_cons_zero])); (refine wpG_take (i := 30) (v := ?_) rfl (by kernel_rfl) (by kernel_rfl) (by kernel_rfl) (fun _ _ _ h => h) (F11) (Or.inl ⟨by rfl, ?_⟩) ?_; rotate_left; (intro wx hx; go_simp) <;> (with_reducible rfl); (try simp only [Act.put, List.setIfInBounds_toArray, List.set_cons_zero, List.set_cons_succ, List.getElem_toArray, List.getElem_cons_succ, List.getElem_cons_zero])); (refine wpG_take (i := 32) (v := ?_) rfl (by kernel_rfl) (by kernel_rfl) (by kernel_rfl) (fun _ _ _ h => h) (F11) (Or.inl ⟨by rfl, ?_⟩) ?_; rotate_left; (intro wx hx; go_simp) <;> (with_reducible rfl); (try simp only [Act.put, List.setIfInBounds_toArray, List.set_cons_zero, List.set_cons_succ, List.getElem_toArray, List.getElem_cons_succ, List.getElem_cons_zero])); (refine wpG_take (i := 33) (v := ?_) rfl (by kernel_rfl) (by kernel_rfl) (by kernel_rfl) (fun _ _ _ h => h) (F11) (Or.inl ⟨by rfl, ?_⟩) ?_; rotate_left; (intro wx hx; go_simp) <;> (with_reducible rfl); (try simp only [Act.put, List.setIfInBounds_toArray, List.set_cons_zero, List.set_cons_succ, List.getElem_toArray, List.getElem_cons_succ, List.getElem_cons_zero]))
        (refine wpG_one (i := 31) (by kernel_rfl) rfl ?_; intro K hK; (try simp only [Act.put, List.setIfInBounds_toArray, List.set_cons_zero, List.set_cons_succ, List.getElem_toArray, List.getElem_cons_succ, List.getElem_cons_zero]))
        refine step_call rfl rfl enESub rfl (subE hv1 hd1 hv2 hd2) ?_
        rintro r w12 ⟨a12, b12, c12, e12, f12, hv12, hd12, rfl, hb12⟩
        have F12 : From wz.drew w12 := bnx F11 hb12
        refine ⟨_, rfl, hK (From wz.drew) _ _ (fun _ h => h) F12 ?_⟩
        clear hK K hb12
        (try simp only [Act.put, List.setIfInBounds_toArray, List.set_cons_zero, List.set_cons_succ, List.getElem_toArray, List.getElem_cons_succ, List.getElem_cons_zero])
        (refine wpG_one (i := 34) (by kernel_rfl) rfl ?_; intro K hK; (try simp only [Act.put, List.setIfInBounds_toArray, List.set_cons_zero, List.set_cons_succ, List.getElem_toArray, List.getElem_cons_succ, List.getElem_cons_zero]))
        refine step_call rfl rfl enESub rfl (subE hv2 hd2 hv1 hd1) ?_
        rintro r w13 ⟨a13, b13, c13, e13, f13, hv13, hd13, rfl, hb13⟩
        have F13 : From wz.drew w13 := bnx F12 hb13
        refine ⟨_, rfl, hK (From wz.drew) _ _ (fun _ h => h) F13 ?_⟩
        clear hK K hb13
        (try simp only [Act.put, List.setIfInBounds_toArray, List.set_cons_zero, List.set_cons_succ, List.getElem_toArray, List.getElem_cons_succ, List.getElem_cons_zero])
        (refine wpG_one (i := 35) (by kernel_rfl) rfl ?_; intro K hK; (try simp only [Act.put, List.setIfInBounds_toArray, List.set_cons_zero, List.set_cons_succ, List.getElem_toArray, List.getElem_cons_succ, List.getElem_cons_zero]))
        refine step_call rfl rfl enENeg rfl (negE hv13 hd13) ?_
        rintro r w14 ⟨a14, b14, c14, e14, f14, hv14, hd14, rfl, hb14⟩
        have F14 : From wz.drew w14 := bnx F13 hb14
        refine ⟨_, rfl, hK (From wz.drew) _ _ (fun _ h => h) F14 ?_⟩
        clear hK K hb14
        (try simp only [Act.put, List.setIfInBounds_toArray, List.set_cons_zero, List.set_cons_succ, List.getElem_toArray, List.getElem_cons_succ, List.getElem_cons_zero])
        (refine wpG_one (i := 36) (by kernel_rfl) rfl ?_; intro K hK; (try simp only [Act.put, List.setIfInBounds_toArray, List.set_cons_zero, List.set_cons_succ, List.getElem_toArray, List.getElem_cons_succ, List.getElem_cons_zero]))
        refine step_call rfl rfl enSame rfl (sameT hv12 hd12 hv14 hd14 (fl11 _ _)) ?_
        rintro r w15 ⟨rfl, hb15⟩
        have F15 : From wz.drew w15 := bnx F14 hb15
        refine ⟨_, rfl, hK (From wz.drew) _ _ (fun _ h => h) F15 ?_⟩
        clear hK K hb15
        (try simp only [Act.put, List.setIfInBounds_toArray, List.set_cons_zero, List.set_cons_succ, List.getElem_toArray, List.getElem_cons_succ, List.getElem_cons_zero])
        (refine wpG_take (i := 37) (v := ?_) rfl (by kernel_rfl) (by kernel_rfl) (by kernel_rfl) (fun _ _ _ h => h) (F15) (Or.inl ⟨by rfl, ?_⟩) ?_; rotate_left; (intro wx hx; go_simp) <;> (with_reducible rfl); (try simp only [Act.put, List.setIfInBounds_toArray, List.set_cons_zero, List.set_cons_succ, List.getElem_toArray, List.getElem_cons_succ, List.getElem_cons_zero])); (refine wpG_take (i := 38) (v := ?_) rfl (by kernel_rfl) (by kernel_rfl) (by kernel_rfl) (fun _ _ _ h => h) (F15) (Or.inl ⟨by rfl, ?_⟩) ?_; rotate_left; (intro wx hx; go_simp) <;> (with_reducible rfl); (try simp only [Act.put, List.setIfInBounds_toArray, List.set_cons_zero, List.set_cons_succ, List.getElem_toArray, List.getElem_cons_succ, List.getElem_cons_zero]))
        (refine wpG_one (i := 39) (by kernel_rfl) rfl ?_; intro K hK; (try simp only [Act.put, List.setIfInBounds_toArray, List.set_cons_zero, List.set_cons_succ, List.getElem_toArray, List.getElem_cons_succ, List.getElem_cons_zero]))
        refine step_call rfl rfl enAwake rfl (awake_any _) ?_
        rintro r w16 ⟨rfl, hb16⟩
        have F16 : From wz.drew w16 := bnx F15 hb16
        refine ⟨_, rfl, hK (From wz.drew) _ _ (fun _ h => h) F16 ?_⟩
        clear hK K hb16
        (try simp only [Act.put, List.setIfInBounds_toArray, List.set_cons_zero, List.set_cons_succ, List.getElem_toArray, List.getElem_cons_succ, List.getElem_cons_zero])
        (refine wpG_take (i := 40) (v := ?_) rfl (by kernel_rfl) (by kernel_rfl) (by kernel_rfl) (fun _ _ _ h => h) (F16) (Or.inl ⟨by rfl, ?_⟩) ?_; rotate_left; (intro wx hx; go_simp) <;> (with_reducible rfl); (try simp only [Act.put, List.setIfInBounds_toArray, List.set_cons_zero, List.set_cons_succ, List.getElem_toArray, List.getElem_cons_succ, List.getElem_cons_zero])); (refine wpG_take (i := 41) (v := ?_) rfl (by kernel_rfl) (by kernel_rfl) (by kernel_rfl) (fun _ _ _ h => h) (F16) (Or.inl ⟨by rfl, ?_⟩) ?_; rotate_left; (intro wx hx; go_simp) <;> (with_reducible rfl); (try simp only [Act.put, List.setIfInBounds_toArray, List.set_cons_zero, List.set_cons_succ, List.getElem_toArray, List.getElem_cons_succ, List.getElem_cons_zero]))
        refine wpG_done (by kernel_rfl) ?_ _
        clear p5_0 p5_1 p5_2 p5_3 p5_4 p6_0 p6_1 p6_2 p6_3 p6_4
        go_wp2_with fail
        go_ret
        exact ⟨rfl, (wzD.out.call F16).below⟩
      · by_cases h2 : (fbytes l1).val % 2 = 1
        · have wzD := hide wzH.out.drew
          have p5_0 : ∀ z, From wz.drew z → z.cell? ⟨w2.heap.size, 0, none⟩ = some (.int .u64 (a1 : Int)) := fun z hz => by rw [hz.cell (p := ⟨w2.heap.size, 0, none⟩) (Chunk.lt (wzD.out.sat 1 _ rfl) rfl)]; exact wzD.out.cell 1 rfl 0
          have p5_1 : ∀ z, From wz.drew z → z.cell? ⟨w2.heap.size, 1, none⟩ = some (.int .u64 (b1 : Int)) := fun z hz => by rw [hz.cell (p := ⟨w2.heap.size, 1, none⟩) (Chunk.lt (wzD.out.sat 1 _ rfl) rfl)]; exact wzD.out.cell 1 rfl 1
          have p5_2 : ∀ z, From wz.drew z → z.cell? ⟨w2.heap.size, 2, none⟩ = some (.int .u64 (c1 : Int)) := fun z hz => by rw [hz.cell (p := ⟨w2.heap.size, 2, none⟩) (Chunk.lt (wzD.out.sat 1 _ rfl) rfl)]; exact wzD.out.cell 1 rfl 2
          have p5_3 : ∀ z, From wz.drew z → z.cell? ⟨w2.heap.size, 3, none⟩ = some (.int .u64 (e1 : Int)) := fun z hz => by rw [hz.cell (p := ⟨w2.heap.size, 3, none⟩) (Chunk.lt (wzD.out.sat 1 _ rfl) rfl)]; exact wzD.out.cell 1 rfl 3
          have p5_4 : ∀ z, From wz.drew z → z.cell? ⟨w2.heap.size, 4, none⟩ = some (.int .u64 (f1 : Int)) := fun z hz => by rw [hz.cell (p := ⟨w2.heap.size, 4, none⟩) (Chunk.lt (wzD.out.sat 1 _ rfl) rfl)]; exact wzD.out.cell 1 rfl 4
          have p6_0 : ∀ z, From wz.drew z → z.cell? ⟨w2.heap.size + 1, 0, none⟩ = some (.int .u64 (a2 : Int)) := fun z hz => by rw [hz.cell (p := ⟨w2.heap.size + 1, 0, none⟩) (Chunk.lt (wzD.out.sat 0 _ rfl) rfl)]; exact wzD.out.cell 0 rfl 0
          have p6_1 : ∀ z, From wz.drew z → z.cell? ⟨w2.heap.size + 1, 1, none⟩ = some (.int .u64 (b2 : Int)) := fun z hz => by rw [hz.cell (p := ⟨w2.heap.size + 1, 1, none⟩) (Chunk.lt (wzD.out.sat 0 _ rfl) rfl)]; exact wzD.out.cell 0 rfl 1
          have p6_2 : ∀ z, From wz.drew z → z.cell? ⟨w2.heap.size + 1, 2, none⟩ = some (.int .u64 (c2 : Int)) := fun z hz => by rw [hz.cell (p := ⟨w2.heap.size + 1, 2, none⟩) (Chunk.lt (wzD.out.sat 0 _ rfl) rfl)]; exact wzD.out.cell 0 rfl 2
          have p6_3 : ∀ z, From wz.drew z → z.cell? ⟨w2.heap.size + 1, 3, none⟩ = some (.int .u64 (e2 : Int)) := fun z hz => by rw [hz.cell (p := ⟨w2.heap.size + 1, 3, none⟩) (Chunk.lt (wzD.out.sat 0 _ rfl) rfl)]; exact wzD.out.cell 0 rfl 3
          have p6_4 : ∀ z, From wz.drew z → z.cell? ⟨w2.heap.size + 1, 4, none⟩ = some (.int .u64 (f2 : Int)) := fun z hz => by rw [hz.cell (p := ⟨w2.heap.size + 1, 4, none⟩) (Chunk.lt (wzD.out.sat 0 _ rfl) rfl)]; exact wzD.out.cell 0 rfl 4
          refine wp_region_F (by kernel_rfl) ?_
          (refine wpG_take (i := 0) (v := ?_) rfl (by kernel_rfl) (by kernel_rfl) (by kernel_rfl) (fun _ _ _ h => h) ((From.refl wz.drew)) (Or.inl ⟨by rfl, ?_⟩) ?_; rotate_left; (intro wx hx; go_simp) <;> (with_reducible rfl); (try simp only [Act.put, List.setIfInBounds_toArray, List.set_cons_zero, List.set_cons_succ, List.getElem_toArray, List.getElem_cons_succ, List.getElem_cons_zero])); (refine wpG_take (i := 3) (v := ?_) rfl (by kernel_rfl) (by kernel_rfl) (by kernel_rfl) (fun _ _ _ h => h) ((From.refl wz.drew)) (Or.inl ⟨by rfl, ?_⟩) ?_; rotate_left; (intro wx hx; go_simp) <;> (with_reducible rfl); (try simp only [Act.put, List.setIfInBounds_toArray, List.set_cons_zero, List.set_cons_succ, List.getElem_toArray, List.getElem_cons_succ, List.getElem_cons_zero]))
          (refine wpG_one (i := 1) (by kernel_rfl) rfl ?_; intro K hK; (try simp only [Act.put, List.setIfInBounds_toArray, List.set_cons_zero, List.set_cons_succ, List.getElem_toArray, List.getElem_cons_succ, List.getElem_cons_zero]))
          refine step_call rfl rfl enENeg rfl (negE hv1 hd1) ?_
          rintro r w3 ⟨a3, b3, c3, e3, f3, hv3, hd3, rfl, hb3⟩
          have F3 : From wz.drew w3 := bnx (From.refl wz.drew) hb3
          refine ⟨_, rfl, hK (From wz.drew) _ _ (fun _ h => h) F3 ?_⟩
          clear hK K hb3
          (try simp only [Act.put, List.setIfInBounds_toArray, List.set_cons_zero, List.set_cons_succ, List.getElem_toArray, List.getElem_cons_succ, List.getElem_cons_zero])
          (refine wpG_one (i := 2) (by kernel_rfl) rfl ?_; intro K hK; (try simp only [Act.put, List.setIfInBounds_toArray, List.set_cons_zero, List.set_cons_succ, List.getElem_toArray, List.getElem_cons_succ, List.getElem_cons_zero]))
          refine step_call rfl rfl enENeg rfl (negE hv3 hd3) ?_
          rintro r w4 ⟨a4, b4, c4, e4, f4, hv4, hd4, rfl, hb4⟩
          have F4 : From wz.drew w4 := bnx F3 hb4
          refine ⟨_, rfl, hK (From wz.drew) _ _ (fun _ h => h) F4 ?_⟩
          clear hK K hb4
          (try simp only [Act.put, List.setIfInBounds_toArray, List.set_cons_zero, List.set_cons_succ, List.getElem_toArray, List.getElem_cons_succ, List.getElem_cons_zero])
          (refine wpG_one (i := 4) (by kernel_rfl) rfl ?_; intro K hK; (try simp only [Act.put, List.setIfInBounds_toArray, List.set_cons_zero, List.set_cons_succ, List.getElem_toArray, List.getElem_cons_succ, List.getElem_cons_zero]))
          refine step_call rfl rfl enSame rfl (sameT hv4 hd4 hv1 hd1 (fl9 _)) ?_
          rintro r w5 ⟨rfl, hb5⟩
          have F5 : From wz.drew w5 := bnx F4 hb5
          refine ⟨_, rfl, hK (From wz.drew) _ _ (fun _ h => h) F5 ?_⟩
          clear hK K hb5
          (try simp only [Act.put, List.setIfInBounds_toArray, List.set_cons_zero, List.set_cons_succ, List.getElem_toArray, List.getElem_cons_succ, List.getElem_cons_zero])
          (refine wpG_take (i := 5) (v := ?_) rfl (by kernel_rfl) (by kernel_rfl) (by kernel_rfl) (fun _ _ _ h => h) (F5) (Or.inl ⟨by rfl, ?_⟩) ?_; rotate_left; (intro wx hx; go_simp) <;> (with_reducible rfl); (try simp only [Act.put, List.setIfInBounds_toArray, List.set_cons_zero, List.set_cons_succ, List.getElem_toArray, List.getElem_cons_succ, List.getElem_cons_zero])); (refine wpG_take (i := 6) (v := ?_) rfl (by kernel_rfl) (by kernel_rfl) (by kernel_rfl) (fun _ _ _ h => h) (F5) (Or.inl ⟨by rfl, ?_⟩) ?_; rotate_left; (intro wx hx; go_simp) <;> (with_reducible rfl); (try simp only [Act.put, List.setIfInBounds_toArray, List.set_cons_zero, List.set_cons_succ, List.getElem_toArray, List.getElem_cons_succ, List.getElem_cons_zero]))
          (refine wpG_one (i := 7) (by kernel_rfl) rfl ?_; intro K hK; (try simp only [Act.put, List.setIfInBounds_toArray, List.set_cons_zero, List.set_cons_succ, List.getElem_toArray, List.getElem_cons_succ, List.getElem_cons_zero]))
          refine step_call rfl rfl enIsZero rfl (zeroF hv1 hd1 h0) ?_
          rintro r w6 ⟨rfl, hb6⟩
          have F6 : From wz.drew w6 := bnx F5 hb6
          refine ⟨_, rfl, hK (From wz.drew) _ _ (fun _ h => h) F6 ?_⟩
          clear hK K hb6
          (try simp only [Act.put, List.setIfInBounds_toArray, List.set_cons_zero, List.set_cons_succ, List.getElem_toArray, List.getElem_cons_succ, List.getElem_cons_zero])
          (refine wpG_take (i := 8) (v := ?_) rfl (by kernel_rfl) (by kernel_rfl) (by kernel_rfl) (fun _ _ _ h => h) (F6) (Or.inl ⟨by rfl, ?_⟩) ?_; rotate_left; (intro wx hx; go_simp) <;> (with_reducible rfl); (try simp only [Act.put, List.setIfInBounds_toArray, List.set_cons_zero, List.set_cons_succ, List.getElem_toArray, List.getElem_cons_succ, List.getElem_cons_zero])); (refine wpG_take (i := 9) (v := ?_) rfl (by kernel_rfl) (by kernel_rfl) (by kernel_rfl) (fun _ _ _ h => h) (F6) (Or.inl ⟨by rfl, ?_⟩) ?_; rotate_left; (intro wx hx; go_simp) <;> (with_reducible rfl); (try simp only [Act.put, List.setIfInBounds_toArray, List.set_cons_zero, List.set_cons_succ, List.getElem_toArray, List.getElem_cons_succ, List.getElem_cons_zero])); (refine wpG_take (i := 11) (v := ?_) rfl (by kernel_rfl) (by kernel_rfl) (by kernel_rfl) (fun _ _ _ h => h) (F6) (Or.inl ⟨by rfl, ?_⟩) ?_; rotate_left; (intro wx hx; go_simp) <;> (with_reducible rfl); (try simp only [Act.put, List.setIfInBounds_toArray, List.set_cons_zero, List.set_cons_succ, List.getElem_toArray, List.getElem_cons_succ, List.getElem_cons_zero]))
          (refine wpG_one (i := 10) (by kernel_rfl) rfl ?_; intro K hK; (try simp only [Act.put, List.setIfInBounds_toArray, List.set_cons_zero, List.set_cons_succ, List.getElem_toArray, List.getElem_cons_succ, List.getElem_cons_zero]))
          refine step_call rfl rfl enEIsOdd rfl (oddT hv1 hd1 h2) ?_
          rintro r w7 ⟨rfl, hb7⟩
          have F7 : From wz.drew w7 := bnx F6 hb7
          refine ⟨_, rfl, hK (From wz.drew) _ _ (fun _ h => h) F7 ?_⟩
          clear hK K hb7
          (try simp only [Act.put, List.setIfInBounds_toArray, List.set_cons_zero, List.set_cons_succ, List.getElem_toArray, List.getElem_cons_succ, List.getElem_cons_zero])
          (refine wpG_one (i := 12) (by kernel_rfl) rfl ?_; intro K hK; (try simp only [Act.put, List.setIfInBounds_toArray, List.set_cons_zero, List.set_cons_succ, List.getElem_toArray, List.getElem_cons_succ, List.getElem_cons_zero]))
          refine step_call rfl rfl enENeg rfl (negE hv1 hd1) ?_
          rintro r w8 ⟨a8, b8, c8, e8, f8, hv8, hd8, rfl, hb8⟩
          have F8 : From wz.drew w8 := bnx F7 hb8
          refine ⟨_, rfl, hK (From wz.drew) _ _ (fun _ h => h) F8 ?_⟩
          clear hK K hb8
          (try simp only [Act.put, List.setIfInBounds_toArray, List.set_cons_zero, List.set_cons_succ, List.getElem_toArray, List.getElem_cons_succ, List.getElem_cons_zero])
          (refine wpG_one (i := 13) (by kernel_rfl) rfl ?_; intro K hK; (try simp only [Act.put, List.setIfInBounds_toArray, List.set_cons_zero, List.set_cons_succ, List.getElem_toArray, List.getElem_cons_succ, List.getElem_cons_zero]))
          refine step_call rfl rfl enEIsOdd rfl (oddF hv8 hd8 (fun h => (fneg_par _ h0).1 h h2)) ?_
          rintro r w9 ⟨rfl, hb9⟩
          have F9 : From wz.drew w9 := bnx F8 hb9
          refine ⟨_, rfl, hK (From wz.drew) _ _ (fun _ h => h) F9 ?_⟩
          clear hK K hb9
          (try simp only [Act.put, List.setIfInBounds_toArray, List.set_cons_zero, List.set_cons_succ, List.getElem_toArray, List.getElem_cons_succ, List.getElem_cons_zero])
          (refine wpG_take (i := 14) (v := ?_) rfl (by kernel_rfl) (by kernel_rfl) (by kernel_rfl) (fun _ _ _ h => h) (F9) (Or.inl ⟨by rfl, ?_⟩) ?_; rotate_left; (intro wx hx; go_simp) <;> (with_reducible rfl); (try simp only [Act.put, List.setIfInBounds_toArray, List.set_cons_zero, List.set_cons_succ, List.getElem_toArray, List.getElem_cons_succ, List.getElem_cons_zero])); (refine wpG_take (i := 15) (v := ?_) rfl (by kernel_rfl) (by kernel_rfl) (by kernel_rfl) (fun _ _ _ h => h) (F9) (Or.inl ⟨by rfl, ?_⟩) ?_; rotate_left; (intro wx hx; go_simp) <;> (with_reducible rfl); (try simp only [Act.put, List.setIfInBounds_toArray, List.set_cons_zero, List.set_cons_succ, List.getElem_toArray, List.getElem_cons_succ, List.getElem_cons_zero])); (refine wpG_take (i := 16) (v := ?_) rfl (by kernel_rfl) (by kernel_rfl) (by kernel_rfl) (fun _ _ _ h => h) (F9) (Or.inl ⟨by rfl, ?_⟩) ?_; rotate_left; (intro wx hx; go_simp) <;> (with_reducible rfl); (try simp only [Act.put, List.setIfInBounds_toArray, List.set_cons_zero, List.set_cons_succ, List.getElem_toArray, List.getElem_cons_succ, List.getElem_cons_zero])); (refine wpG_take (i := 17) (v := ?_) rfl (by kernel_rfl) (by kernel_rfl) (by kernel_rfl) (fun _ _ _ h => h) (F9) (Or.inl ⟨by rfl, ?_⟩) ?_; rotate_left; (intro wx hx; go_simp) <;> (with_reducible rfl); (try simp only [Act.put, List.setIfInBounds_toArray, List.set_cons_zero, List.set_cons_succ, List.getElem_toArray, List.getElem_cons_succ, List.getElem_cons_zero])); (refine wpG_take (i := 18) (v := ?_) rfl (by kernel_rfl) (by kernel_rfl) (by kernel_rfl) (fun _ _ _ h => h) (F9) (Or.inl ⟨by rfl, ?_⟩) ?_; rotate_left; (intro wx hx; go_simp) <;> (with_reducible rfl); (try simp only [Act.put, List.setIfInBounds_toArray, List.set_cons_zero, List.set_cons_succ, List.getElem_toArray, List.getElem_cons_succ, List.getElem_cons_zero])); (refine wpG_take (i := 20) (v := ?_) rfl (by kernel_rfl) (by kernel_rfl) (by kernel_rfl) (fun _ _ _ h => h) (F9) (Or.inl ⟨by rfl, ?_⟩) ?_; rotate_left; (intro wx hx; go_simp) <;> (with_reducible rfl); (try simp only [Act.put, List.setIfInBounds_toArray, List.set_cons_zero, List.set_cons_succ, List.getElem_toArray, List.getElem_cons_succ, List.getElem_cons_zero])); (refine wpG_take (i := 23) (v := ?_) rfl (by kernel_rfl) (by kernel_rfl) (by kernel_rfl) (fun _ _ _ h => h) (F9) (Or.inl ⟨by rfl, ?_⟩) ?_; rotate_left; (intro wx hx; go_simp) <;> (with_reducible rfl); (try simp only [Act.put, List.setIfInBounds_toArray, List.set_cons_zero, List.set_cons_succ, List.getElem_toArray, List.getElem_cons_succ, List.getElem_cons_zero])); (refine wpG_take (i := 24) (v := ?_) rfl (by kernel_rfl) (by kernel_rfl) (by kernel_rfl) (fun _ _ _ h => h) (F9) (Or.inl ⟨by rfl, ?_⟩) ?_; rotate_left; (intro wx hx; go_simp) <;> (with_reducible rfl); (try simp only [Act.put, List.setIfInBounds_toArray, List.set_cons_zero, List.set_cons_succ, List.getElem_toArray, List.getElem_cons_succ, List.getElem_cons_zero]))
          (refine wpG_one (i := 19) (by kernel_rfl) rfl ?_; intro K hK; (try simp only [Act.put, List.setIfInBounds_toArray, List.set_cons_zero, List.set_cons_succ, List.getElem_toArray, List.getElem_cons_succ, List.getElem_cons_zero]))
          refine step_call rfl rfl enENeg rfl (negE hv1 hd1) ?_
          rintro r w10 ⟨a10, b10, c10, e10, f10, hv10, hd10, rfl, hb10⟩
          have F10 : From wz.drew w10 := bnx F9 hb10
          refine ⟨_, rfl, hK (From wz.drew) _ _ (fun _ h => h) F10 ?_⟩
          clear hK K hb10
          (try simp only [Act.put, List.setIfInBounds_toArray, List.set_cons_zero, List.set_cons_succ, List.getElem_toArray, List.getElem_cons_succ, List.getElem_cons_zero])
          (refine wpG_one (i := 21) (by kernel_rfl) rfl ?_; intro K hK; (try simp only [Act.put, List.setIfInBounds_toArray, List.set_cons_zero, List.set_cons_succ, List.getElem_toArray, List.getElem_cons_succ, List.getElem_cons_zero]))
          refine step_call rfl rfl enENeg rfl (negE hv2 hd2) ?_
          rintro r w11 ⟨a11, b11, c11, e11, f11, hv11, hd11, rfl, hb11⟩
          have F11 : From wz.drew w11 := bnx F10 hb11
          refine ⟨_, rfl, hK (From wz.drew) _ _ (fun _ h => h) F11 ?_⟩
          clear hK K hb11
          (try simp only [Act.put, List.setIfInBounds_toArray, List.set_cons_zero, List.set_cons_succ, List.getElem_toArray, List.getElem_cons_succ, List.getElem_cons_zero])
          (refine wpG_one (i := 22) (by kernel_rfl) rfl ?_; intro K hK; (try simp only [Act.put, List.setIfInBounds_toArray, List.set_cons_zero, List.set_cons_succ, List.getElem_toArray, List.getElem_cons_succ, List.getElem_cons_zero]))
          refine step_call rfl rfl enEMul rfl (mulE hv10 hd10 hv11 hd11) ?_
          rintro r w12 ⟨a12, b12, c12, e12, f12, hv12, hd12, rfl, hb12⟩
          have F12 : From wz.drew w12 := bnx F11 hb12
          refine ⟨_, rfl, hK (From wz.drew) _ _ (fun _ h => h) F12 ?_⟩
          clear hK K hb12
          (try simp only [Act.put, List.setIfInBounds_toArray, List.set_cons_zero, List.set_cons_succ, List.getElem_toArray, List.getElem_cons_succ, List.getElem_cons_zero])
          (refine wpG_one (i := 25) (by kernel_rfl) rfl ?_; intro K hK; (try simp only [Act.put, List.setIfInBounds_toArray, List.set_cons_zero, List.set_cons_succ, List.getElem_toArray, List.getElem_cons_succ, List.getElem_cons_zero]))
          refine step_call rfl rfl enEMul rfl (mulE hv1 hd1 hv2 hd2) ?_
          rintro r w13 ⟨a13, b13, c13, e13, f13, hv13, hd13, rfl, hb13⟩
          have F13 : From wz.drew w13 := bnx F12 hb13
          refine ⟨_, rfl, hK (From wz.drew) _ _ (fun _ h => h) F13 ?_⟩
          clear hK K hb13
          (try simp only [Act.put, List.setIfInBounds_toArray, List.set_cons_zero, List.set_cons_succ, List.getElem_toArray, List.getElem_cons_succ, List.getElem_cons_zero])
          (refine wpG_one (i := 26) (by kernel_rfl) rfl ?_; intro K hK; (try simp only [Act.put, List.setIfInBounds_toArray, List.set_cons_zero, List.set_cons_succ, List.getElem_toArray, List.getElem_cons_succ, List.getElem_cons_zero]))
          refine step_call rfl rfl enSame rfl (sameT hv12 hd12 hv13 hd13 (fl10 _ _)) ?_
          rintro r w14 ⟨rfl, hb14⟩
          have F14 : From wz.drew w14 := bnx F13 hb14
          refine ⟨_, rfl, hK (From wz.drew) _ _ (fun _ h => h) F14 ?_⟩
          clear hK K hb14
          (try simp only [Act.put, List.setIfInBounds_toArray, List.set_cons_zero, List.set_cons_succ, List.getElem_toArray, List.getElem_cons_succ, List.getElem_cons_zero])
          (refine wpG_take (i := 27) (v := ?_) rfl (by kernel_rfl) (by kernel_rfl) (by kernel_rfl) (fun _ _ _ h => h) (F14) (Or.inl ⟨by rfl, ?_⟩) ?_; rotate_left; (intro wx hx; go_simp) <;> (with_reducible rfl); (try simp only [Act.put, List.setIfInBounds_toArray, List.set_cons_zero, List.set_cons_succ, List.getElem_toArray, List.getElem_cons_succ, List.getElem_cons_zero])); (refine wpG_take (i := 28) (v := ?_) rfl (by kernel_rfl) (by kernel_rfl) (by kernel_rfl) (fun _ _ _ h => h) (F14) (Or.inl ⟨by rfl, ?_⟩) ?_; rotate_left; (intro wx hx; go_simp) <;> (with_reducible rfl); (try simp only [Act.put, List.setIfInBounds_toArray, List.set_cons_zero, List.set_cons_succ, List.getElem_toArray, List.getElem_cons_succ, List.getElem_cons_zero])); (refine wpG_take (i := 29) (v := ?_) rfl (by kernel_rfl) (by kernel_rfl) (by kernel_rfl) (fun _ _ _ h => h) (F14) (Or.inl ⟨by rfl, ?_⟩) ?_; rotate_left; (intro wx hx; go_simp) <;> (with_reducible rfl); (try simp only [Act.put, List.setIfInBounds_toArray, List.set_cons_zero, List.set_cons_succ, List.getElem_toArray, List.getElem_cons_succ, List.getElem_cons_zero])); (refine wpG_take (i := 30) (v := ?_) rfl (by kernel_rfl) (by kernel_rfl) (by kernel_rfl) (fun _ _ _ h => h) (F14) (Or.inl ⟨by rfl, ?_⟩) ?_; rotate_left; (intro wx hx; go_simp) <;> (with_reducible rfl); (try simp only [Act.put, List.setIfInBounds_toArray, List.set_cons_zero, List.set_cons_succ, List.getElem_toArray, List.getElem_cons_succ, List.getElem_cons_zero])); (refine wpG_take (i := 32) (v := ?_) rfl (by kernel_rfl) (by kernel_rfl) (by kernel_rfl) (fun _ _ _ h => h) (F14) (Or.inl ⟨by rfl, ?_⟩) ?_; rotate_left; (intro wx hx; go_simp) <;> (with_reducible rfl); (try simp only [Act.put, List.setIfInBounds_toArray, List.set_cons_zero, List.set_cons_succ, List.getElem_toArray, List.getElem_cons_succ, List.getElem_cons_zero])); (refine wpG_take (i := 33) (v := ?_) rfl (by kernel_rfl) (by kernel_rfl) (by kernel_rfl) (fun _ _ _ h => h) (F14) (Or.inl ⟨by rfl, ?_⟩) ?_; rotate_left; (intro wx hx; go_simp) <;> (with_reducible rfl); (try simp only [Act.put, List.setIfInBounds_toArray, List.set_cons_zero, List.set_cons_succ, List.getElem_toArray, List.getElem_cons_succ, List.getElem_cons_zero]))
          (refine wpG_one (i := 31) (by kernel_rfl) rfl ?_; intro K hK; (try simp only [Act.put, List.setIfInBounds_toArray, List.set_cons_zero, List.set_cons_succ, List.getElem_toArray, List.getElem_cons_succ, List.getElem_cons_zero]))
          refine step_call rfl rfl enESub rfl (subE hv1 hd1 hv2 hd2) ?_
          rintro r w15 ⟨a15, b15, c15, e15, f15, hv15, hd15, rfl, hb15⟩
          have F15 : From wz.drew w15 := bnx F14 hb15
          refine ⟨_, rfl, hK (From wz.drew) _ _ (fun _ h => h) F15 ?_⟩
          clear hK K hb15
          (try simp only [Act.put, List.setIfInBounds_toArray, List.set_cons_zero, List.set_cons_succ, List.getElem_toArray, List.getElem_cons_succ, List.getElem_cons_zero])
          (refine wpG_one (i := 34) (by kernel_rfl) rfl ?_; intro K hK; (try simp only [Act.put, List.setIfInBounds_toArray, List.set_cons_zero, List.set_cons_succ, List.getElem_toArray, List.getElem_cons_succ, List.getElem_cons_zero]))
          refine step_call rfl rfl enESub rfl (subE hv2 hd2 hv1 hd1) ?_
          rintro r w16 ⟨a16, b16, c16, e16, f16, hv16, hd16, rfl, hb16⟩
          have F16 : From wz.drew w16 := bnx F15 hb16
          refine ⟨_, rfl, hK (From wz.drew) _ _ (fun _ h => h) F16 ?_⟩
          clear hK K hb16
          (try simp only [Act.put, List.setIfInBounds_toArray, List.set_cons_zero, List.set_cons_succ, List.getElem_toArray, List.getElem_cons_succ, List.getElem_cons_zero])
          (refine wpG_one (i := 35) (by kernel_rfl) rfl ?_; intro K hK; (try simp only [Act.put, List.setIfInBounds_toArray, List.set_cons_zero, List.set_cons_succ, List.getElem_toArray, List.getElem_cons_succ, List.getElem_cons_zero]))
          refine step_call rfl rfl enENeg rfl (negE hv16 hd16) ?_
          rintro r w17 ⟨a17, b17, c17, e17, f17, hv17, hd17, rfl, hb17⟩
          have F17 : From wz.drew w17 := bnx F16 hb17
          refine ⟨_, rfl, hK (From wz.drew) _ _ (fun _ h => h) F17 ?_⟩
          clear hK K hb17
          (try simp only [Act.put, List.setIfInBounds_toArray, List.set_cons_zero, List.set_cons_succ, List.getElem_toArray, List.getElem_cons_succ, List.getElem_cons_zero])
          (refine wpG_one (i := 36) (by kernel_rfl) rfl ?_; intro K hK; (try simp only [Act.put, List.setIfInBounds_toArray, List.set_cons_zero, List.set_cons_succ, List.getElem_toArray, List.getElem_cons_succ, List.getElem_cons_zero]))
          refine step_call rfl rfl enSame rfl (sameT hv15 hd15 hv17 hd17 (fl11 _ _)) ?_
          rintro r w18 ⟨rfl, hb18⟩
          have F18 : From wz.drew w18 := bnx F17 hb18
          refine ⟨_, rfl, hK (From wz.drew) _ _ (fun _ h => h) F18 ?_⟩
          clear hK K hb18
          (try simp only [Act.put, List.setIfInBounds_toArray, List.set_cons_zero, List.set_cons_succ, List.getElem_toArray, List.getElem_cons_succ, List.getElem_cons_zero])
          (refine wpG_take (i := 37) (v := ?_) rfl (by kernel_rfl) (by kernel_rfl) (by kernel_rfl) (fun _ _ _ h => h) (F18) (Or.inl ⟨by rfl, ?_⟩) ?_; rotate_left; (intro wx hx; go_simp) <;> (with_reducible rfl); (try simp only [Act.put, List.setIfInBounds_toArray, List.set_cons_zero, List.set_cons_succ, List.getElem_toArray, List.getElem_cons_succ, List.getElem_cons_zero])); (refine wpG_take (i := 38) (v := ?_) rfl (by kernel_rfl) (by kernel_rfl) (by kernel_rfl) (fun _ _ _ h => h) (F18) (Or.inl ⟨by rfl, ?_⟩) ?_; rotate_left; (intro wx hx; go_simp) <;> (with_reducible rfl); (try simp only [Act.put, List.setIfInBounds_toArray, List.set_cons_zero, List.set_cons_succ, List.getElem_toArray, List.getElem_cons_succ, List.getElem_cons_zero]))
          (refine wpG_one (i := 39) (by kernel_rfl) rfl ?_; intro K hK; (try simp only [Act.put, List.setIfInBounds_toArray, List.set_cons_zero, List.set_cons_succ, List.getElem_toArray, List.getElem_cons_succ, List.getElem_cons_zero]))
          refine step_call rfl rfl enAwake rfl (awake_any _) ?_
          rintro r w19 ⟨rfl, hb19⟩
          have F19 : From wz.drew w19 := bnx F18 hb19
          refine ⟨_, rfl, hK (From wz.drew) _ _ (fun _ h => h) F19 ?_⟩
          clear hK K hb19
          (try simp only [Act.put, List.setIfInBounds_toArray, List.set_cons_zero, List.set_cons_succ, List.getElem_toArray, List.getElem_cons_succ, List.getElem_cons_zero])
          (refine wpG_take (i := 40) (v := ?_) rfl (by kernel_rfl) (by kernel_rfl) (by kernel_rfl) (fun _ _ _ h => h) (F19) (Or.inl ⟨by rfl, ?_⟩) ?_; rotate_left; (intro wx hx; go_simp) <;> (with_reducible rfl); (try simp only [Act.put, List.setIfInBounds_toArray, List.set_cons_zero, List.set_cons_succ, List.getElem_toArray, List.getElem_cons_succ, List.getElem_cons_zero])); (refine wpG_take (i := 41) (v := ?_) rfl (by kernel_rfl) (by kernel_rfl) (by kernel_rfl) (fun _ _ _ h => h) (F19) (Or.inl ⟨by rfl, ?_⟩) ?_; rotate_left; (intro wx hx; go_simp) <;> (with_reducible rfl); (try simp only [Act.put, List.setIfInBounds_toArray, List.set_cons_zero, List.set_cons_succ, List.getElem_toArray, List.getElem_cons_succ, List.getElem_cons_zero]))
          refine wpG_done (by kernel_rfl) ?_ _
          clear p5_0 p5_1 p5_2 p5_3 p5_4 p6_0 p6_1 p6_2 p6_3 p6_4
          go_wp2_with fail
          go_ret
          exact ⟨rfl, (wzD.out.call F19).below⟩
        · have wzD := hide wzH.out.drew
          have p5_0 : ∀ z, From wz.drew z → z.cell? ⟨w2.heap.size, 0, none⟩ = some (.int .u64 (a1 : Int)) := fun z hz => by rw [hz.cell (p := ⟨w2.heap.size, 0, none⟩) (Chunk.lt (wzD.out.sat 1 _ rfl) rfl)]; exact wzD.out.cell 1 rfl 0
          have p5_1 : ∀ z, From wz.drew z → z.cell? ⟨w2.heap.size, 1, none⟩ = some (.int .u64 (b1 : Int)) := fun z hz => by rw [hz.cell (p := ⟨w2.heap.size, 1, none⟩) (Chunk.lt (wzD.out.sat 1 _ rfl) rfl)]; exact wzD.out.cell 1 rfl 1
          have p5_2 : ∀ z, From wz.drew z → z.cell? ⟨w2.heap.size, 2, none⟩ = some (.int .u64 (c1 : Int)) := fun z hz => by rw [hz.cell (p := ⟨w2.heap.size, 2, none⟩) (Chunk.lt (wzD.out.sat 1 _ rfl) rfl)]; exact wzD.out.cell 1 rfl 2
          have p5_3 : ∀ z, From wz.drew z → z.cell? ⟨w2.heap.size, 3, none⟩ = some (.int .u64 (e1 : Int)) := fun z hz => by rw [hz.cell (p := ⟨w2.heap.size, 3, none⟩) (Chunk.lt (wzD.out.sat 1 _ rfl) rfl)]; exact wzD.out.cell 1 rfl 3
          have p5_4 : ∀ z, From wz.drew z → z.cell? ⟨w2.heap.size, 4, none⟩ = some (.int .u64 (f1 : Int)) := fun z hz => by rw [hz.cell (p := ⟨w2.heap.size, 4, none⟩) (Chunk.lt (wzD.out.sat 1 _ rfl) rfl)]; exact wzD.out.cell 1 rfl 4
          have p6_0 : ∀ z, From wz.drew z → z.cell? ⟨w2.heap.size + 1, 0, none⟩ = some (.int .u64 (a2 : Int)) := fun z hz => by rw [hz.cell (p := ⟨w2.heap.size + 1, 0, none⟩) (Chunk.lt (wzD.out.sat 0 _ rfl) rfl)]; exact wzD.out.cell 0 rfl 0
          have p6_1 : ∀ z, From wz.drew z → z.cell? ⟨w2.heap.size + 1, 1, none⟩ = some (.int .u64 (b2 : Int)) := fun z hz => by rw [hz.cell (p := ⟨w2.heap.size + 1, 1, none⟩) (Chunk.lt (wzD.out.sat 0 _ rfl) rfl)]; exact wzD.out.cell 0 rfl 1
          have p6_2 : ∀ z, From wz.drew z → z.cell? ⟨w2.heap.size + 1, 2, none⟩ = some (.int .u64 (c2 : Int)) := fun z hz => by rw [hz.cell (p := ⟨w2.heap.size + 1, 2, none⟩) (Chunk.lt (wzD.out.sat 0 _ rfl) rfl)]; exact wzD.out.cell 0 rfl 2
          have p6_3 : ∀ z, From wz.drew z → z.cell? ⟨w2.heap.size + 1, 3, none⟩ = some (.int .u64 (e2 : Int)) := fun z hz => by rw [hz.cell (p := ⟨w2.heap.size + 1, 3, none⟩) (Chunk.lt (wzD.out.sat 0 _ rfl) rfl)]; exact wzD.out.cell 0 rfl 3
          have p6_4 : ∀ z, From wz.drew z → z.cell? ⟨w2.heap.size + 1, 4, none⟩ = some (.int .u64 (f2 : Int)) := fun z hz => by rw [hz.cell (p := ⟨w2.heap.size + 1, 4, none⟩) (Chunk.lt (wzD.out.sat 0 _ rfl) rfl)]; exact wzD.out.cell 0 rfl 4
          refine wp_region_F (by kernel_rfl) ?_
          (refine wpG_take (i := 0) (v := ?_) rfl (by kernel_rfl) (by kernel_rfl) (by kernel_rfl) (fun _ _ _ h => h) ((From.refl wz.drew)) (Or.inl ⟨by rfl, ?_⟩) ?_; rotate_left; (intro wx hx; go_simp) <;> (with_reducible rfl); (try simp only [Act.put, List.setIfInBounds_toArray, List.set_cons_zero, List.set_cons_succ, List.getElem_toArray, List.getElem_cons_succ, List.getElem_cons_zero])); (refine wpG_take (i := 3) (v := ?_) rfl (by kernel_rfl) (by kernel_rfl) (by kernel_rfl) (fun _ _ _ h => h) ((From.refl wz.drew)) (Or.inl ⟨by rfl, ?_⟩) ?_; rotate_left; (intro wx hx; go_simp) <;> (with_reducible rfl); (try simp only [Act.put, List.setIfInBounds_toArray, List.set_cons_zero, List.set_cons_succ, List.getElem_toArray, List.getElem_cons_succ, List.getElem_cons_zero]))
          (refine wpG_one (i := 1) (by kernel_rfl) rfl ?_; intro K hK; (try simp only [Act.put, List.setIfInBounds_toArray, List.set_cons_zero, List.set_cons_succ, List.getElem_toArray, List.getElem_cons_succ, List.getElem_cons_zero]))
          refine step_call rfl rfl enENeg rfl (negE hv1 hd1) ?_
          rintro r w3 ⟨a3, b3, c3, e3, f3, hv3, hd3, rfl, hb3⟩
          have F3 : From wz.drew w3 := bnx (From.refl wz.drew) hb3
          refine ⟨_, rfl, hK (From wz.drew) _ _ (fun _ h => h) F3 ?_⟩
          clear hK K hb3
          (try simp only [Act.put, List.setIfInBounds_toArray, List.set_cons_zero, List.set_cons_succ, List.getElem_toArray, List.getElem_cons_succ, List.getElem_cons_zero])
          (refine wpG_one (i := 2) (by kernel_rfl) rfl ?_; intro K hK; (try simp only [Act.put, List.setIfInBounds_toArray, List.set_cons_zero, List.set_cons_succ, List.getElem_toArray, List.getElem_cons_succ, List.getElem_cons_zero]))
          refine step_call rfl rfl enENeg rfl (negE hv3 hd3) ?_
          rintro r w4 ⟨a4, b4, c4, e4, f4, hv4, hd4, rfl, hb4⟩
          have F4 : From wz.drew w4 := bnx F3 hb4
          refine ⟨_, rfl, hK (From wz.drew) _ _ (fun _ h => h) F4 ?_⟩
          clear hK K hb4
          (try simp only [Act.put, List.setIfInBounds_toArray, List.set_cons_zero, List.set_cons_succ, List.getElem_toArray, List.getElem_cons_succ, List.getElem_cons_zero])
          (refine wpG_one (i := 4) (by kernel_rfl) rfl ?_; intro K hK; (try simp only [Act.put, List.setIfInBounds_toArray, List.set_cons_zero, List.set_cons_succ, List.getElem_toArray, List.getElem_cons_succ, List.getElem_cons_zero]))
          refine step_call rfl rfl enSame rfl (sameT hv4 hd4 hv1 hd1 (fl9 _)) ?_
          rintro r w5 ⟨rfl, hb5⟩
          have F5 : From wz.drew w5 := bnx F4 hb5
          refine ⟨_, rfl, hK (From wz.drew) _ _ (fun _ h => h) F5 ?_⟩
          clear hK K hb5
          (try simp only [Act.put, List.setIfInBounds_toArray, List.set_cons_zero, List.set_cons_succ, List.getElem_toArray, List.getElem_cons_succ, List.getElem_cons_zero])
          (refine wpG_take (i := 5) (v := ?_) rfl (by kernel_rfl) (by kernel_rfl) (by kernel_rfl) (fun _ _ _ h => h) (F5) (Or.inl ⟨by rfl, ?_⟩) ?_; rotate_left; (intro wx hx; go_simp) <;> (with_reducible rfl); (try simp only [Act.put, List.setIfInBounds_toArray, List.set_cons_zero, List.set_cons_succ, List.getElem_toArray, List.getElem_cons_succ, List.getElem_cons_zero])); (refine wpG_take (i := 6) (v := ?_) rfl (by kernel_rfl) (by kernel_rfl) (by kernel_rfl) (fun _ _ _ h => h) (F5) (Or.inl ⟨by rfl, ?_⟩) ?_; rotate_left; (intro wx hx; go_simp) <;> (with_reducible rfl); (try simp only [Act.put, List.setIfInBounds_toArray, List.set_cons_zero, List.set_cons_succ, List.getElem_toArray, List.getElem_cons_succ, List.getElem_cons_zero]))
          (refine wpG_one (i := 7) (by kernel_rfl) rfl ?_; intro K hK; (try simp only [Act.put, List.setIfInBounds_toArray, List.set_cons_zero, List.set_cons_succ, List.getElem_toArray, List.getElem_cons_succ, List.getElem_cons_zero]))
          refine step_call rfl rfl enIsZero rfl (zeroF hv1 hd1 h0) ?_
          rintro r w6 ⟨rfl, hb6⟩
          have F6 : From wz.drew w6 := bnx F5 hb6
          refine ⟨_, rfl, hK (From wz.drew) _ _ (fun _ h => h) F6 ?_⟩
          clear hK K hb6
          (try simp only [Act.put, List.setIfInBounds_toArray, List.set_cons_zero, List.set_cons_succ, List.getElem_toArray, List.getElem_cons_succ, List.getElem_cons_zero])
          (refine wpG_take (i := 8) (v := ?_) rfl (by kernel_rfl) (by kernel_rfl) (by kernel_rfl) (fun _ _ _ h => h) (F6) (Or.inl ⟨by rfl, ?_⟩) ?_; rotate_left; (intro wx hx; go_simp) <;> (with_reducible rfl); (try simp only [Act.put, List.setIfInBounds_toArray, List.set_cons_zero, List.set_cons_succ, List.getElem_toArray, List.getElem_cons_succ, List.getElem_cons_zero])); (refine wpG_take (i := 9) (v := ?_) rfl (by kernel_rfl) (by kernel_rfl) (by kernel_rfl) (fun _ _ _ h => h) (F6) (Or.inl ⟨by rfl, ?_⟩) ?_; rotate_left; (intro wx hx; go_simp) <;> (with_reducible rfl); (try simp only [Act.put, List.setIfInBounds_toArray, List.set_cons_zero, List.set_cons_succ, List.getElem_toArray, List.getElem_cons_succ, List.getElem_cons_zero])); (refine wpG_take (i := 11) (v := ?_) rfl (by kernel_rfl) (by kernel_rfl) (by kernel_rfl) (fun _ _ _ h => h) (F6) (Or.inl ⟨by rfl, ?_⟩) ?_; rotate_left; (intro wx hx; go_simp) <;> (with_reducible rfl); (try simp only [Act.put, List.setIfInBounds_toArray, List.set_cons_zero, List.set_cons_succ, List.getElem_toArray, List.getElem_cons_succ, List.getElem_cons_zero]))
          (refine wpG_one (i := 10) (by kernel_rfl) rfl ?_; intro K hK; (try simp only [Act.put, List.setIfInBounds_toArray, List.set_cons_zero, List.set_cons_succ, List.getElem_toArray, List.getElem_cons_succ, List.getElem_cons_zero]))
          refine step_call rfl rfl enEIsOdd rfl (oddF hv1 hd1 h2) ?_
          rintro r w7 ⟨rfl, hb7⟩
          have F7 : From wz.drew w7 := bnx F6 hb7
          refine ⟨_, rfl, hK (From wz.drew) _ _ (fun _ h => h) F7 ?_⟩
          clear hK K hb7
          (try simp only [Act.put, List.setIfInBounds_toArray, List.set_cons_zero, List.set_cons_succ, List.getElem_toArray, List.getElem_cons_succ, List.getElem_cons_zero])
          (refine wpG_one (i := 12) (by kernel_rfl) rfl ?_; intro K hK; (try simp only [Act.put, List.setIfInBounds_toArray, List.set_cons_zero, List.set_cons_succ, List.getElem_toArray, List.getElem_cons_succ, List.getElem_cons_zero]))
          refine step_call rfl rfl enENeg rfl (negE hv1 hd1) ?_
          rintro r w8 ⟨a8, b8, c8, e8, f8, hv8, hd8, rfl, hb8⟩
          have F8 : From wz.drew w8 := bnx F7 hb8
          refine ⟨_, rfl, hK (From wz.drew) _ _ (fun _ h => h) F8 ?_⟩
          clear hK K hb8
          (try simp only [Act.put, List.setIfInBounds_toArray, List.set_cons_zero, List.set_cons_succ, List.getElem_toArray, List.getElem_cons_succ, List.getElem_cons_zero])
          (refine wpG_one (i := 13) (by kernel_rfl) rfl ?_; intro K hK; (try simp only [Act.put, List.setIfInBounds_toArray, List.set_cons_zero, List.set_cons_succ, List.getElem_toArray, List.getElem_cons_succ, List.getElem_cons_zero]))
          refine step_call rfl rfl enEIsOdd rfl (oddT hv8 hd8 ((fneg_par _ h0).2 h2)) ?_
          rintro r w9 ⟨rfl, hb9⟩
          have F9 : From wz.drew w9 := bnx F8 hb9
          refine ⟨_, rfl, hK (From wz.drew) _ _ (fun _ h => h) F9 ?_⟩
          clear hK K hb9
          (try simp only [Act.put, List.setIfInBounds_toArray, List.set_cons_zero, List.set_cons_succ, List.getElem_toArray, List.getElem_cons_succ, List.getElem_cons_zero])
          (refine wpG_take (i := 14) (v := ?_) rfl (by kernel_rfl) (by kernel_rfl) (by kernel_rfl) (fun _ _ _ h => h) (F9) (Or.inl ⟨by rfl, ?_⟩) ?_; rotate_left; (intro wx hx; go_simp) <;> (with_reducible rfl); (try simp only [Act.put, List.setIfInBounds_toArray, List.set_cons_zero, List.set_cons_succ, List.getElem_toArray, List.getElem_cons_succ, List.getElem_cons_zero])); (refine wpG_take (i := 15) (v := ?_) rfl (by kernel_rfl) (by kernel_rfl) (by kernel_rfl) (fun _ _ _ h => h) (F9) (Or.inl ⟨by rfl, ?_⟩) ?_; rotate_left; (intro wx hx; go_simp) <;> (with_reducible rfl); (try simp only [Act.put, List.setIfInBounds_toArray, List.set_cons_zero, List.set_cons_succ, List.getElem_toArray, List.getElem_cons_succ, List.getElem_cons_zero])); (refine wpG_take (i := 16) (v := ?_) rfl (by kernel_rfl) (by kernel_rfl) (by kernel_rfl) (fun _ _ _ h => h) (F9) (Or.inl ⟨by rfl, ?_⟩) ?_; rotate_left; (intro wx hx; go_simp) <;> (with_reducible rfl); (try simp only [Act.put, List.setIfInBounds_toArray, List.set_cons_zero, List.set_cons_succ, List.getElem_toArray, List.getElem_cons_succ, List.getElem_cons_zero])); (refine wpG_take (i := 17) (v := ?_) rfl (by kernel_rfl) (by kernel_rfl) (by kernel_rfl) (fun _ _ _ h => h) (F9) (Or.inl ⟨by rfl, ?_⟩) ?_; rotate_left; (intro wx hx; go_simp) <;> (with_reducible rfl); (try simp only [Act.put, List.setIfInBounds_toArray, List.set_cons_zero, List.set_cons_succ, List.getElem_toArray, List.getElem_cons_succ, List.getElem_cons_zero])); (refine wpG_take (i := 18) (v := ?_) rfl (by kernel_rfl) (by kernel_rfl) (by kernel_rfl) (fun _ _ _ h => h) (F9) (Or.inl ⟨by rfl, ?_⟩) ?_; rotate_left; (intro wx hx; go_simp) <;> (with_reducible rfl); (try simp only [Act.put, List.setIfInBounds_toArray, List.set_cons_zero, List.set_cons_succ, List.getElem_toArray, List.getElem_cons_succ, List.getElem_cons_zero])); (refine wpG_take (i := 20) (v := ?_) rfl (by kernel_rfl) (by kernel_rfl) (by kernel_rfl) (fun _ _ _ h => h) (F9) (Or.inl ⟨by rfl, ?_⟩) ?_; rotate_left; (intro wx hx; go_simp) <;> (with_reducible rfl); (try simp only [Act.put, List.setIfInBounds_toArray, List.set_cons_zero, List.set_cons_succ, List.getElem_toArray, List.getElem_cons_succ, List.getElem_cons_zero])); (refine wpG_take (i := 23) (v := ?_) rfl (by kernel_rfl) (by kernel_rfl) (by kernel_rfl) (fun _ _ _ h => h) (F9) (Or.inl ⟨by rfl, ?_⟩) ?_; rotate_left; (intro wx hx; go_simp) <;> (with_reducible rfl); (try simp only [Act.put, List.setIfInBounds_toArray, List.set_cons_zero, List.set_cons_succ, List.getElem_toArray, List.getElem_cons_succ, List.getElem_cons_zero])); (refine wpG_take (i := 24) (v := ?_) rfl (by kernel_rfl) (by kernel_rfl) (by kernel_rfl) (fun _ _ _ h => h) (F9) (Or.inl ⟨by rfl, ?_⟩) ?_; rotate_left; (intro wx hx; go_simp) <;> (with_reducible rfl); (try simp only [Act.put, List.setIfInBounds_toArray, List.set_cons_zero, List.set_cons_succ, List.getElem_toArray, List.getElem_cons_succ, List.getElem_cons_zero]))
          (refine wpG_one (i := 19) (by kernel_rfl) rfl ?_; intro K hK; (try simp only [Act.put, List.setIfInBounds_toArray, List.set_cons_zero, List.set_cons_succ, List.getElem_toArray, List.getElem_cons_succ, List.getElem_cons_zero]))
          refine step_call rfl rfl enENeg rfl (negE hv1 hd1) ?_
          rintro r w10 ⟨a10, b10, c10, e10, f10, hv10, hd10, rfl, hb10⟩
          have F10 : From wz.drew w10 := bnx F9 hb10
          refine ⟨_, rfl, hK (From wz.drew) _ _ (fun _ h => h) F10 ?_⟩
          clear hK K hb10
          (try simp only [Act.put, List.setIfInBounds_toArray, List.set_cons_zero, List.set_cons_succ, List.getElem_toArray, List.getElem_cons_succ, List.getElem_cons_zero])
          (refine wpG_one (i := 21) (by kernel_rfl) rfl ?_; intro K hK; (try simp only [Act.put, List.setIfInBounds_toArray, List.set_cons_zero, List.set_cons_succ, List.getElem_toArray, List.getElem_cons_succ, List.getElem_cons_zero]))
          refine step_call rfl rfl enENeg rfl (negE hv2 hd2) ?_
          rintro r w11 ⟨a11, b11, c11, e11, f11, hv11, hd11, rfl, hb11⟩
          have F11 : From wz.drew w11 := bnx F10 hb11
          refine ⟨_, rfl, hK (From wz.drew) _ _ (fun _ h => h) F11 ?_⟩
          clear hK K hb11
          (try simp only [Act.put, List.setIfInBounds_toArray, List.set_cons_zero, List.set_cons_succ, List.getElem_toArray, List.getElem_cons_succ, List.getElem_cons_zero])
          (refine wpG_one (i := 22) (by kernel_rfl) rfl ?_; intro K hK; (try simp only [Act.put, List.setIfInBounds_toArray, List.set_cons_zero, List.set_cons_succ, List.getElem_toArray, List.getElem_cons_succ, List.getElem_cons_zero]))
          refine step_call rfl rfl enEMul rfl (mulE hv10 hd10 hv11 hd11) ?_
          rintro r w12 ⟨a12, b12, c12, e12, f12, hv12, hd12, rfl, hb12⟩
          have F12 : From wz.drew w12 := bnx F11 hb12
          refine ⟨_, rfl, hK (From wz.drew) _ _ (fun _ h => h) F12 ?_⟩
          clear hK K hb12
          (try simp only [Act.put, List.setIfInBounds_toArray, List.set_cons_zero, List.set_cons_succ, List.getElem_toArray, List.getElem_cons_succ, List.getElem_cons_zero])
          (refine wpG_one (i := 25) (by kernel_rfl) rfl ?_; intro K hK; (try simp only [Act.put, List.setIfInBounds_toArray, List.set_cons_zero, List.set_cons_succ, List.getElem_toArray, List.getElem_cons_succ, List.getElem_cons_zero]))
          refine step_call rfl rfl enEMul rfl (mulE hv1 hd1 hv2 hd2) ?_
          rintro r w13 ⟨a13, b13, c13, e13, f13, hv13, hd13, rfl, hb13⟩
          have F13 : From wz.drew w13 := bnx F12 hb13
          refine ⟨_, rfl, hK (From wz.drew) _ _ (fun _ h => h) F13 ?_⟩
          clear hK K hb13
          (try simp only [Act.put, List.setIfInBounds_toArray, List.set_cons_zero, List.set_cons_succ, List.getElem_toArray, List.getElem_cons_succ, List.getElem_cons_zero])
          (refine wpG_one (i := 26) (by kernel_rfl) rfl ?_; intro K hK; (try simp only [Act.put, List.setIfInBounds_toArray, List.set_cons_zero, List.set_cons_succ, List.getElem_toArray, List.getElem_cons_succ, List.getElem_cons_zero]))
          refine step_call rfl rfl enSame rfl (sameT hv12 hd12 hv13 hd13 (fl10 _ _)) ?_
          rintro r w14 ⟨rfl, hb14⟩
          have F14 : From wz.drew w14 := bnx F13 hb14
          refine ⟨_, rfl, hK (From wz.drew) _ _ (fun _ h => h) F14 ?_⟩
          clear hK K hb14
          (try simp only [Act.put, List.setIfInBounds_toArray, List.set_cons_zero, List.set_cons_succ, List.getElem_toArray, List.getElem_cons_succ, List.getElem_cons_zero])
          (refine wpG_take (i := 27) (v := ?_) rfl (by kernel_rfl) (by kernel_rfl) (by kernel_rfl) (fun _ _ _ h => h) (F14) (Or.inl ⟨by rfl, ?_⟩) ?_; rotate_left; (intro wx hx; go_simp) <;> (with_reducible rfl); (try simp only [Act.put, List.setIfInBounds_toArray, List.set_cons_zero, List.set_cons_succ, List.getElem_toArray, List.getElem_cons_succ, List.getElem_cons_zero])); (refine wpG_take (i := 28) (v := ?_) rfl (by kernel_rfl) (by kernel_rfl) (by kernel_rfl) (fun _ _ _ h => h) (F14) (Or.inl ⟨by rfl, ?_⟩) ?_; rotate_left; (intro wx hx; go_simp) <;> (with_reducible rfl); (try simp only [Act.put, List.setIfInBounds_toArray, List.set_cons_zero, List.set_cons_succ, List.getElem_toArray, List.getElem_cons_succ, List.getElem_cons_zero])); (refine wpG_take (i := 29) (v := ?_) rfl (by kernel_rfl) (by kernel_rfl) (by kernel_rfl) (fun _ _ _ h => h) (F14) (Or.inl ⟨by rfl, ?_⟩) ?_; rotate_left; (intro wx hx; go_simp) <;> (with_reducible rfl); (try simp only [Act.put, List.setIfInBounds_toArray, List.set_cons_zero, List.set_cons_succ, List.getElem_toArray, List.getElem_cons_succ, List.getElem_cons_zero])); (refine wpG_take (i := 30) (v := ?_) rfl (by kernel_rfl) (by kernel_rfl) (by kernel_rfl) (fun _ _ _ h => h) (F14) (Or.inl ⟨by rfl, ?_⟩) ?_; rotate_left; (intro wx hx; go_simp) <;> (with_reducible rfl); (try simp only [Act.put, List.setIfInBounds_toArray, List.set_cons_zero, List.set_cons_succ, List.getElem_toArray, List.getElem_cons_succ, List.getElem_cons_zero])); (refine wpG_take (i := 32) (v := ?_) rfl (by kernel_rfl) (by kernel_rfl) (by kernel_rfl) (fun _ _ _ h => h) (F14) (Or.inl ⟨by rfl, ?_⟩) ?_; rotate_left; (intro wx hx; go_simp) <;> (with_reducible rfl); (try simp only [Act.put, List.setIfInBounds_toArray, List.set_cons_zero, List.set_cons_succ, List.getElem_toArray, List.getElem_cons_succ, List.getElem_cons_zero])); (refine wpG_take (i := 33) (v := ?_) rfl (by kernel_rfl) (by kernel_rfl) (by kernel_rfl) (fun _ _ _ h => h) (F14) (Or.inl ⟨by rfl, ?_⟩) ?_; rotate_left; (intro wx hx; go_simp) <;> (with_reducible rfl); (try simp only [Act.put, List.setIfInBounds_toArray, List.set_cons_zero, List.set_cons_succ, List.getElem_toArray, List.getElem_cons_succ, List.getElem_cons_zero]))
          (refine wpG_one (i := 31) (by kernel_rfl) rfl ?_; intro K hK; (try simp only [Act.put, List.setIfInBounds_toArray, List.set_cons_zero, List.set_cons_succ, List.getElem_toArray, List.getElem_cons_succ, List.getElem_cons_zero]))
          refine step_call rfl rfl enESub rfl (subE hv1 hd1 hv2 hd2) ?_
          rintro r w15 ⟨a15, b15, c15, e15, f15, hv15, hd15, rfl, hb15⟩
          have F15 : From wz.drew w15 := bnx F14 hb15
          refine ⟨_, rfl, hK (From wz.drew) _ _ (fun _ h => h) F15 ?_⟩
          clear hK K hb15
          (try simp only [Act.put, List.setIfInBounds_toArray, List.set_cons_zero, List.set_cons_succ, List.getElem_toArray, List.getElem_cons_succ, List.getElem_cons_zero])
          (refine wpG_one (i := 34) (by kernel_rfl) rfl ?_; intro K hK; (try simp only [Act.put, List.setIfInBounds_toArray, List.set_cons_zero, List.set_cons_succ, List.getElem_toArray, List.getElem_cons_succ, List.getElem_cons_zero]))
          refine step_call rfl rfl enESub rfl (subE hv2 hd2 hv1 hd1) ?_
          rintro r w16 ⟨a16, b16, c16, e16, f16, hv16, hd16, rfl, hb16⟩
          have F16 : From wz.drew w16 := bnx F15 hb16
          refine ⟨_, rfl, hK (From wz.drew) _ _ (fun _ h => h) F16 ?_⟩
          clear hK K hb16
          (try simp only [Act.put, List.setIfInBounds_toArray, List.set_cons_zero, List.set_cons_succ, List.getElem_toArray, List.getElem_cons_succ, List.getElem_cons_zero])
          (refine wpG_one (i := 35) (by kernel_rfl) rfl ?_; intro K hK; (try simp only [Act.put, List.setIfInBounds_toArray, List.set_cons_zero, List.set_cons_succ, List.getElem_toArray, List.getElem_cons_succ, List.getElem_cons_zero]))
          refine step_call rfl rfl enENeg rfl (negE hv16 hd16) ?_
          rintro r w17 ⟨a17, b17, c17, e17, f17, hv17, hd17, rfl, hb17⟩
          have F17 : From wz.drew w17 := bnx F16 hb17
          refine ⟨_, rfl, hK (From wz.drew) _ _ (fun _ h => h) F17 ?_⟩
          clear hK K hb17
          (try simp only [Act.put, List.setIfInBounds_toArray, List.set_cons_zero, List.set_cons_succ, List.getElem_toArray, List.getElem_cons_succ, List.getElem_cons_zero])
          (refine wpG_one (i := 36) (by kernel_rfl) rfl ?_; intro K hK; (try simp only [Act.put, List.setIfInBounds_toArray, List.set_cons_zero, List.set_cons_succ, List.getElem_toArray, List.getElem_cons_succ, List.getElem_cons_zero]))
          refine step_call rfl rfl enSame rfl (sameT hv15 hd15 hv17 hd17 (fl11 _ _)) ?_
          rintro r w18 ⟨rfl, hb18⟩
          have F18 : From wz.drew w18 := bnx F17 hb18
          refine ⟨_, rfl, hK (From wz.drew) _ _ (fun _ h => h) F18 ?_⟩
          clear hK K hb18
          (try simp only [Act.put, List.setIfInBounds_toArray, List.set_cons_zero, List.set_cons_succ, List.getElem_toArray, List.getElem_cons_succ, List.getElem_cons_zero])
          (refine wpG_take (i := 37) (v := ?_) rfl (by kernel_rfl) (by kernel_rfl) (by kernel_rfl) (fun _ _ _ h => h) (F18) (Or.inl ⟨by rfl, ?_⟩) ?_; rotate_left; (intro wx hx; go_simp) <;> (with_reducible rfl); (try simp only [Act.put, List.setIfInBounds_toArray, List.set_cons_zero, List.set_cons_succ, List.getElem_toArray, List.getElem_cons_succ, List.getElem_cons_zero])); (refine wpG_take (i := 38) (v := ?_) rfl (by kernel_rfl) (by kernel_rfl) (by kernel_rfl) (fun _ _ _ h => h) (F18) (Or.inl ⟨by rfl, ?_⟩) ?_; rotate_left; (intro wx hx; go_simp) <;> (with_reducible rfl); (try simp only [Act.put, List.setIfInBounds_toArray, List.set_cons_zero, List.set_cons_succ, List.getElem_toArray, List.getElem_cons_succ, List.getElem_cons_zero]))
          (refine wpG_one (i := 39) (by kernel_rfl) rfl ?_; intro K hK; (try simp only [Act.put, List.setIfInBounds_toArray, List.set_cons_zero, List.set_cons_succ, List.getElem_toArray, List.getElem_cons_succ, List.getElem_cons_zero]))
          refine step_call rfl rfl enAwake rfl (awake_any _) ?_
          rintro r w19 ⟨rfl, hb19⟩
          have F19 : From wz.drew w19 := bnx F18 hb19
          refine ⟨_, rfl, hK (From wz.drew) _ _ (fun _ h => h) F19 ?_⟩
          clear hK K hb19
          (try simp only [Act.put, List.setIfInBounds_toArray, List.set_cons_zero, List.set_cons_succ, List.getElem_toArray, List.getElem_cons_succ, List.getElem_cons_zero])
          (refine wpG_take (i := 40) (v := ?_) rfl (by kernel_rfl) (by kernel_rfl) (by kernel_rfl) (fun _ _ _ h => h) (F19) (Or.inl ⟨by rfl, ?_⟩) ?_; rotate_left; (intro wx hx; go_simp) <;> (with_reducible rfl); (try simp only [Act.put, List.setIfInBounds_toArray, List.set_cons_zero, List.set_cons_succ, List.getElem_toArray, List.getElem_cons_succ, List.getElem_cons_zero])); (refine wpG_take (i := 41) (v := ?_) rfl (by kernel_rfl) (by kernel_rfl) (by kernel_rfl) (fun _ _ _ h => h) (F19) (Or.inl ⟨by rfl, ?_⟩) ?_; rotate_left; (intro wx hx; go_simp) <;> (with_reducible rfl); (try simp only [Act.put, List.setIfInBounds_toArray, List.set_cons_zero, List.set_cons_succ, List.getElem_toArray, List.getElem_cons_succ, List.getElem_cons_zero]))
          refine wpG_done (by kernel_rfl) ?_ _
          clear p5_0 p5_1 p5_2 p5_3 p5_4 p6_0 p6_1 p6_2 p6_3 p6_4
          go_wp2_with fail
          go_ret
          exact ⟨rfl, (wzD.out.call F19).below⟩
end Go.Proofs.Ytdihedhhkcakoaa
