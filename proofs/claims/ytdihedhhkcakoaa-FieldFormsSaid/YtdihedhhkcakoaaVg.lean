/-
  The walk of FieldForms.
-/
import Derived.Test.YtdihedhhkcakoaaNh
namespace Go.Proofs.Ytdihedhhkcakoaa
open Go.RowKit
set_option linter.unusedSimpArgs false

theorem enAddNq (args : Array Value) (w : World) : (callFunc 23 args).run Try.prog w = .ok (.enter 23 args) w := by kernel_rfl
theorem enSubNq (args : Array Value) (w : World) : (callFunc 24 args).run Try.prog w = .ok (.enter 24 args) w := by kernel_rfl
theorem enInvNq (args : Array Value) (w : World) : (callFunc 26 args).run Try.prog w = .ok (.enter 26 args) w := by kernel_rfl
theorem enSameNq (args : Array Value) (w : World) : (callFunc 28 args).run Try.prog w = .ok (.enter 28 args) w := by kernel_rfl
theorem enOddNq (args : Array Value) (w : World) : (callFunc 29 args).run Try.prog w = .ok (.enter 29 args) w := by kernel_rfl
theorem enFromBN (args : Array Value) (w : World) : (callFunc 21 args).run Try.prog w = .ok (.enter 21 args) w := by kernel_rfl
def fsn (n : Nat) : FK := ⟨n % Pq, Nat.mod_lt _ pq_pos⟩
theorem fsn_val (n : Nat) (h : n < 4294967296) : (fsn n).val = n := Nat.mod_eq_of_lt (Nat.lt_trans h (by unfold Pq; decide))
theorem ff_zsub (X : FK) : (0 : FK) - X = -X := Fin.ext (by rw [fsub_val, fneg_val, fzero_val, Nat.zero_add])
theorem zer_arr : (#[.int .i64 0, .int .i64 0, .int .i64 0, .int .i64 0, .int .i64 0, .int .i64 0, .int .i64 0, .int .i64 0, .int .i64 0, .int .i64 0, .int .i64 0, .int .i64 0, .int .i64 0, .int .i64 0, .int .i64 0, .int .i64 0] : Array Value) = (ivs zerN).toArray := rfl
theorem subZ {xs : List Int} {X : FK} (w : World) (h : NE xs X) : Calls Try.prog 24 #[.agg #[.int .i64 0, .int .i64 0, .int .i64 0, .int .i64 0, .int .i64 0, .int .i64 0, .int .i64 0, .int .i64 0, .int .i64 0, .int .i64 0, .int .i64 0, .int .i64 0, .int .i64 0, .int .i64 0, .int .i64 0, .int .i64 0], .agg (ivs xs).toArray] w (ResN w (-X)) := by
  rw [← ff_zsub, zer_arr]
  exact subC w ne_zero h
theorem sameZ {xs : List Int} {X : FK} (w : World) (h : NE xs X) : Calls Try.prog 28 #[.agg (ivs xs).toArray, .agg #[.int .i64 0, .int .i64 0, .int .i64 0, .int .i64 0, .int .i64 0, .int .i64 0, .int .i64 0, .int .i64 0, .int .i64 0, .int .i64 0, .int .i64 0, .int .i64 0, .int .i64 0, .int .i64 0, .int .i64 0, .int .i64 0]] w fun e w' => e = .returned (.bool (decide (X.val = 0))) ∧ Below w.heap.size w w' := by
  have := sameC w h ne_zero
  rw [fzero_val, ← zer_arr] at this
  exact this
theorem smallC2 (n : Nat) (w : World) (h : n < 4294967296) : Calls Try.prog 27 #[.int .u32 (n : Int)] w (ResN w (fsn n)) :=
  (smallN_any n w h).mono fun _ _ he => ⟨_, ⟨(ne_small n h).1, by
    rw [(ne_small n h).2, fsn_val n h]
    have := Pq_256.2
    exact Int.emod_eq_of_lt (by omega) (by have : (4294967296 : Int) < Pq := by unfold Pq; decide +kernel
                                           omega)⟩, he.1, he.2⟩
theorem smallE2 (n : Nat) (w : World) (h : n < 4294967296) :
    Calls Try.prog 14 #[.int .u32 (n : Int)] w fun r w' => ∃ p q s t u : Nat, ev [p, q, s, t, u] = (fsn n).val ∧ Red [p, q, s, t, u] ∧ r = .returned (.agg #[.int .u64 (p : Int), .int .u64 (q : Int), .int .u64 (s : Int), .int .u64 (t : Int), .int .u64 (u : Int)]) ∧ Below w.heap.size w w' := by
  rw [fsn_val n h]
  exact smallE n w h
set_option maxRecDepth 100000 in
set_option maxHeartbeats 8000000 in
theorem fieldForms_walk (A1 A2 : Option Addr) (q1 q2 : Nat) (l1 l2 : List UInt8) (n : Nat) (w : World) (hr1 : Rd w (.slice A1 l1.length q1) 1 l1.length (bvs l1)) (hr2 : Rd w (.slice A2 l2.length q2) 1 l2.length (bvs l2)) (hn : n < 4294967296) :
    Calls Try.prog 8 #[.slice A1 l1.length q1, .slice A2 l2.length q2, .int .u32 (n : Int)] w fun e w' => e = .returned (.bool true) ∧ Below w.heap.size w w' := by
  have HR1 := hide hr1
  have HR2 := hide hr2
  have HNN := hide hn
  obtain ⟨n1, hn1⟩ : ∃ n, n = l1.length := ⟨_, rfl⟩
  obtain ⟨n2, hn2⟩ : ∃ n, n = l2.length := ⟨_, rfl⟩
  rw [← hn1] at HR1 ⊢
  rw [← hn2] at HR2 ⊢
  have HL1 := hide hn1.symm
  have HL2 := hide hn2.symm
  clear hr1 hr2 hn1 hn2 hn
  by_cases h1 : n1 > 100
  · have d1 : decide (100 < (n1 : Int)) = true := by simp; omega
    clear h1
    go_enter Try.func8, Try.ntmps8
    go_wp2_with (go_at_call 9; refine (awake_any _).mono ?_; rintro e w1 ⟨rfl, hb1⟩)
    go_ret
    exact ⟨rfl, hb1⟩
  · have d1 : decide (100 < (n1 : Int)) = false := by simp; omega
    have k1 := hide h1
    by_cases h2 : n2 > 100
    · have d2 : decide (100 < (n2 : Int)) = true := by simp; omega
      clear h1 h2
      go_enter Try.func8, Try.ntmps8
      go_wp2_with (go_at_call 9; refine (awake_any _).mono ?_; rintro e w1 ⟨rfl, hb1⟩)
      go_ret
      exact ⟨rfl, hb1⟩
    · have d2 : decide (100 < (n2 : Int)) = false := by simp; omega
      have k2 := hide h2
      clear h1 h2
      obtain ⟨X, hX⟩ : ∃ X, X = fbytes l1 := ⟨_, rfl⟩
      obtain ⟨Y, hY⟩ : ∃ Y, Y = fbytes l2 := ⟨_, rfl⟩
      have HX := hide hX
      have HY := hide hY
      clear hX hY
      go_enter Try.func8, Try.ntmps8
      go_upto_region 4 with (first
        | (go_at_call 10; (with_reducible refine (fromE HL1.out (by have := k1.out; omega) HR1.out).mono ?_); rintro r v1 ⟨a1, b1, c1, e1, f1, hv, hd, rfl, hb⟩; rw [← HX.out] at hv; have HB1 := hide hb; have HV1 := hide hv; have HD1 := hide hd; clear hv hd hb)
        | (go_at_call 10; (with_reducible refine (fromE HL2.out (by have := k2.out; omega) (HR2.out.below HB1.out)).mono ?_); rintro r v2 ⟨a2, b2, c2, e2, f2, hv, hd, rfl, hb⟩; rw [← HY.out] at hv; have HB2 := hide hb; have HV2 := hide hv; have HD2 := hide hd; clear hv hd hb))
      have hS := (((St.init w NoB).call (bnx HB1.out HB2.out)).alloc #[.int .u64 (a1 : Int), .int .u64 (b1 : Int), .int .u64 (c1 : Int), .int .u64 (e1 : Int), .int .u64 (f1 : Int)] 27).alloc #[.int .u64 (a2 : Int), .int .u64 (b2 : Int), .int .u64 (c2 : Int), .int .u64 (e2 : Int), .int .u64 (f2 : Int)] 27
      rw [size_alloc1] at hS
      have HS := hide hS
      clear hS
      generalize ((v2.alloc (.cells #[.int .u64 (a1 : Int), .int .u64 (b1 : Int), .int .u64 (c1 : Int), .int .u64 (e1 : Int), .int .u64 (f1 : Int)] 27)).alloc (.cells #[.int .u64 (a2 : Int), .int .u64 (b2 : Int), .int .u64 (c2 : Int), .int .u64 (e2 : Int), .int .u64 (f2 : Int)] 27)) = w3 at HS ⊢
      obtain ⟨gx, hgx⟩ : ∃ g, g = v2.heap.size := ⟨_, rfl⟩
      rw [← hgx] at HS
      simp only [← hgx]
      clear hgx
      refine wp_region_list ?_
      refine wpList_plain rfl ?_
      intro K hK
      go_simp
      refine hK _ _ ?_
      clear hK K
      refine wl_callN rfl rfl enFromBN rfl (frN_any A1 n1 q1 l1 _ HL1.out (by have := k1.out; omega) (HR1.out.st HS.out)) ?_
      rintro e w4 ⟨z1, hz1, rfl, hb4⟩
      refine ⟨_, rfl, ?_⟩
      rw [← HX.out] at hz1
      have HZ1 := hide hz1
      have HS := hide (HS.out.call hb4)
      refine wpList_plain rfl ?_
      intro K hK
      go_simp
      refine hK _ _ ?_
      clear hK K
      refine wl_callN rfl rfl enFromBN rfl (frN_any A2 n2 q2 l2 _ HL2.out (by have := k2.out; omega) (HR2.out.st HS.out)) ?_
      rintro e w5 ⟨z2, hz2, rfl, hb5⟩
      refine ⟨_, rfl, ?_⟩
      rw [← HY.out] at hz2
      have HZ2 := hide hz2
      have HS := hide (HS.out.call hb5)
      clear hz1 hz2 hb4 hb5
      refine wpList_plain rfl ?_
      intro K hK
      go_simp
      refine hK _ _ ?_
      clear hK K
      refine wpList_plain rfl ?_
      intro K hK
      go_simp
      refine hK _ _ ?_
      clear hK K
      have hS := (HS.out.alloc #[.int .i64 0, .int .i64 0, .int .i64 0, .int .i64 0, .int .i64 0, .int .i64 0, .int .i64 0, .int .i64 0, .int .i64 0, .int .i64 0, .int .i64 0, .int .i64 0, .int .i64 0, .int .i64 0, .int .i64 0, .int .i64 0] 41).alloc #[.int .i64 0, .int .i64 0, .int .i64 0, .int .i64 0, .int .i64 0, .int .i64 0, .int .i64 0, .int .i64 0, .int .i64 0, .int .i64 0, .int .i64 0, .int .i64 0, .int .i64 0, .int .i64 0, .int .i64 0, .int .i64 0] 41
      rw [size_alloc1] at hS
      have HS := hide hS
      clear hS
      generalize ((w5.alloc (.cells #[.int .i64 0, .int .i64 0, .int .i64 0, .int .i64 0, .int .i64 0, .int .i64 0, .int .i64 0, .int .i64 0, .int .i64 0, .int .i64 0, .int .i64 0, .int .i64 0, .int .i64 0, .int .i64 0, .int .i64 0, .int .i64 0] 41)).alloc (.cells #[.int .i64 0, .int .i64 0, .int .i64 0, .int .i64 0, .int .i64 0, .int .i64 0, .int .i64 0, .int .i64 0, .int .i64 0, .int .i64 0, .int .i64 0, .int .i64 0, .int .i64 0, .int .i64 0, .int .i64 0, .int .i64 0] 41)) = w6 at HS ⊢
      obtain ⟨gz, hgz⟩ : ∃ g, g = w5.heap.size := ⟨_, rfl⟩
      rw [← hgz] at HS
      simp only [← hgz]
      clear hgz
      have HS7 := hide (show St w NoB _ [.cells (gz + 1) #[.int .i64 0, .int .i64 0, .int .i64 0, .int .i64 0, .int .i64 0, .int .i64 0, .int .i64 0, .int .i64 0, .int .i64 0, .int .i64 0, .int .i64 0, .int .i64 0, .int .i64 0, .int .i64 0, .int .i64 0, .int .i64 0] 41, .cells gz (ivs z1).toArray 41, .cells (gx + 1) #[.int .u64 (a2 : Int), .int .u64 (b2 : Int), .int .u64 (c2 : Int), .int .u64 (e2 : Int), .int .u64 (f2 : Int)] 27, .cells gx #[.int .u64 (a1 : Int), .int .u64 (b1 : Int), .int .u64 (c1 : Int), .int .u64 (e1 : Int), .int .u64 (f1 : Int)] 27] from HS.out.setRow 1 rfl (ivs z1).toArray)
      refine wpList_store_row rfl 41 (.tmp 9) (.tmp 25) rfl gz (ivs z1).toArray rfl rfl 41 _ (HS.out.heap 1 rfl) (by rw [ivs_size HZ1.out]; kernel_rfl) (by rw [ivs_size HZ1.out]; rfl) (ivs_all _) ?_
      generalize w6.setRow gz (ivs z1).toArray = w7 at HS7 ⊢
      have HS8 := hide (show St w NoB _ [.cells (gz + 1) (ivs z2).toArray 41, .cells gz (ivs z1).toArray 41, .cells (gx + 1) #[.int .u64 (a2 : Int), .int .u64 (b2 : Int), .int .u64 (c2 : Int), .int .u64 (e2 : Int), .int .u64 (f2 : Int)] 27, .cells gx #[.int .u64 (a1 : Int), .int .u64 (b1 : Int), .int .u64 (c1 : Int), .int .u64 (e1 : Int), .int .u64 (f1 : Int)] 27] from HS7.out.setRow 0 rfl (ivs z2).toArray)
      refine wpList_store_row rfl 41 (.tmp 10) (.tmp 27) rfl (gz + 1) (ivs z2).toArray rfl rfl 41 _ (HS7.out.heap 0 rfl) (by rw [ivs_size HZ2.out]; kernel_rfl) (by rw [ivs_size HZ2.out]; rfl) (ivs_all _) ?_
      generalize w7.setRow (gz + 1) (ivs z2).toArray = w8 at HS8 ⊢
      clear HS7 HS
      have HS := HS8
      clear HS8
      refine wpList_nil ?_
      (try simp only [Act.put, List.setIfInBounds_toArray, List.set_cons_zero, List.set_cons_succ, List.getElem_toArray, List.getElem_cons_succ, List.getElem_cons_zero])
      have e1 : ∃ B, decide (X.val = Y.val) = B := ⟨_, rfl⟩
      obtain ⟨B1, hB1⟩ := e1
      have e2 : ∃ B, decide (X.val = 0) = B := ⟨_, rfl⟩
      obtain ⟨B2, hB2⟩ := e2
      have e3 : ∃ B, decide (X.val % 2 = 1) = B := ⟨_, rfl⟩
      obtain ⟨B3, hB3⟩ := e3
      have hs1 := fun W => sameE (w := W) HV1.out HD1.out HV2.out HD2.out
      have hs2 := fun W => sameC W HZ1.out HZ2.out
      have hz1 := fun W => zeroE (w := W) HV1.out HD1.out
      have hz2 := fun W => sameZ W HZ1.out
      have ho1 := fun W => oddE (w := W) HV1.out HD1.out
      have ho2 := fun W => oddC W HZ1.out
      rw [hB1] at hs1 hs2
      rw [hB2] at hz1 hz2
      rw [hB3] at ho1 ho2
      have HS1 := hide hs1
      have HS2 := hide hs2
      have HO1 := hide hz1
      have HO2 := hide hz2
      have HP1 := hide ho1
      have HP2 := hide ho2
      have hsz1 : (ivs z1).toArray.size = 16 := ivs_size HZ1.out
      have hsz2 : (ivs z2).toArray.size = 16 := ivs_size HZ2.out
      clear hB1 hB2 hB3 hs1 hs2 hz1 hz2 ho1 ho2
      go_wp2_with fail
      simp only [List.append_eq, List.cons_append, List.nil_append]
      refine wp_region_T [(0, 0), (1, 0), (2, 2), (3, 1), (4, 0), (5, 0), (7, 0), (8, 0), (6, 2), (9, 2), (10, 2), (11, 1), (12, 1), (13, 0), (14, 0), (16, 0), (17, 0), (15, 2), (18, 2), (19, 2), (20, 1), (21, 1), (22, 0), (23, 0), (25, 0), (26, 0), (24, 2), (27, 2), (28, 2), (29, 1), (30, 1), (31, 0), (33, 1), (34, 0), (32, 2), (35, 2), (36, 2), (37, 1), (38, 1), (39, 0), (41, 0), (40, 2), (42, 2), (43, 2), (44, 1), (45, 1), (46, 1), (48, 1), (47, 2), (49, 2), (50, 2), (51, 1), (52, 1), (53, 0), (54, 0), (56, 0), (57, 0), (55, 2), (58, 2), (59, 1), (60, 1), (61, 1), (62, 0), (64, 0), (65, 1), (63, 2), (66, 2), (67, 1), (68, 1), (69, 1), (70, 0), (72, 0), (71, 2), (73, 2), (74, 1), (75, 1), (76, 1), (77, 2), (78, 1), (79, 1)] (by kernel_rfl) (by kernel_rfl) (fun _ _ _ _ h => h) ?_
      have HS := hide HS.out.drew
      generalize w8.drew = w9 at HS ⊢
      refine wpT_loadRow rfl rfl (by kernel_rfl) HS.out 3 rfl rfl Try.underlying27 rfl (by kernel_rfl) ?_; (try simp only [Act.put, List.setIfInBounds_toArray, List.set_cons_zero, List.set_cons_succ, List.getElem_toArray, List.getElem_cons_succ, List.getElem_cons_zero])
      refine wpT_loadRow rfl rfl (by kernel_rfl) HS.out 1 rfl rfl Try.underlying41 rfl (by rw [hsz1]; kernel_rfl) ?_; (try simp only [Act.put, List.setIfInBounds_toArray, List.set_cons_zero, List.set_cons_succ, List.getElem_toArray, List.getElem_cons_succ, List.getElem_cons_zero])
      refine wpT_callF rfl (by kernel_rfl) rfl enLSame rfl (lsameC _ HV1.out HD1.out HZ1.out) ?_
      rintro r x1 ⟨rfl, hb⟩
      refine ⟨_, rfl, hb, ?_⟩
      have HS := hide (HS.out.call hb); clear hb
      (try simp only [Act.put, List.setIfInBounds_toArray, List.set_cons_zero, List.set_cons_succ, List.getElem_toArray, List.getElem_cons_succ, List.getElem_cons_zero])
      (refine wpT_pure (v := ?_) rfl (by kernel_rfl) ?_ ?_; rotate_left; (intro wx; go_simp; try go_bits) <;> (with_reducible rfl)); (try simp only [Act.put, List.setIfInBounds_toArray, List.set_cons_zero, List.set_cons_succ, List.getElem_toArray, List.getElem_cons_succ, List.getElem_cons_zero])
      refine wpT_loadRow rfl rfl (by kernel_rfl) HS.out 3 rfl rfl Try.underlying27 rfl (by kernel_rfl) ?_; (try simp only [Act.put, List.setIfInBounds_toArray, List.set_cons_zero, List.set_cons_succ, List.getElem_toArray, List.getElem_cons_succ, List.getElem_cons_zero])
      refine wpT_loadRow rfl rfl (by kernel_rfl) HS.out 2 rfl rfl Try.underlying27 rfl (by kernel_rfl) ?_; (try simp only [Act.put, List.setIfInBounds_toArray, List.set_cons_zero, List.set_cons_succ, List.getElem_toArray, List.getElem_cons_succ, List.getElem_cons_zero])
      refine wpT_loadRow rfl rfl (by kernel_rfl) HS.out 1 rfl rfl Try.underlying41 rfl (by rw [hsz1]; kernel_rfl) ?_; (try simp only [Act.put, List.setIfInBounds_toArray, List.set_cons_zero, List.set_cons_succ, List.getElem_toArray, List.getElem_cons_succ, List.getElem_cons_zero])
      refine wpT_loadRow rfl rfl (by kernel_rfl) HS.out 0 rfl rfl Try.underlying41 rfl (by rw [hsz2]; kernel_rfl) ?_; (try simp only [Act.put, List.setIfInBounds_toArray, List.set_cons_zero, List.set_cons_succ, List.getElem_toArray, List.getElem_cons_succ, List.getElem_cons_zero])
      refine wpT_callF rfl (by kernel_rfl) rfl enEAdd rfl (addE HV1.out HD1.out HV2.out HD2.out) ?_
      rintro r v3 ⟨a3, b3, c3, e3, f3, hv, hd, rfl, hb⟩
      refine ⟨_, rfl, hb, ?_⟩
      have HS := hide (HS.out.call hb); have HV3 := hide hv; have HD3 := hide hd; clear hv hd hb
      (try simp only [Act.put, List.setIfInBounds_toArray, List.set_cons_zero, List.set_cons_succ, List.getElem_toArray, List.getElem_cons_succ, List.getElem_cons_zero])
      refine wpT_callF rfl (by kernel_rfl) rfl enAddNq rfl (addC _ HZ1.out HZ2.out) ?_
      rintro r y3 ⟨z3, hz, rfl, hb⟩
      refine ⟨_, rfl, hb, ?_⟩
      have HS := hide (HS.out.call hb); have HZ3 := hide hz; have hsz3 : (ivs z3).toArray.size = 16 := ivs_size hz; clear hz hb
      (try simp only [Act.put, List.setIfInBounds_toArray, List.set_cons_zero, List.set_cons_succ, List.getElem_toArray, List.getElem_cons_succ, List.getElem_cons_zero])
      refine wpT_callF rfl (by kernel_rfl) rfl enLSame rfl (lsameC _ HV3.out HD3.out HZ3.out) ?_
      rintro r x3 ⟨rfl, hb⟩
      refine ⟨_, rfl, hb, ?_⟩
      have HS := hide (HS.out.call hb); clear hb
      (try simp only [Act.put, List.setIfInBounds_toArray, List.set_cons_zero, List.set_cons_succ, List.getElem_toArray, List.getElem_cons_succ, List.getElem_cons_zero])
      (refine wpT_pure (v := ?_) rfl (by kernel_rfl) ?_ ?_; rotate_left; (intro wx; go_simp; try go_bits) <;> (with_reducible rfl)); (try simp only [Act.put, List.setIfInBounds_toArray, List.set_cons_zero, List.set_cons_succ, List.getElem_toArray, List.getElem_cons_succ, List.getElem_cons_zero])
      (refine wpT_pure (v := ?_) rfl (by kernel_rfl) ?_ ?_; rotate_left; (intro wx; go_simp; try go_bits) <;> (with_reducible rfl)); (try simp only [Act.put, List.setIfInBounds_toArray, List.set_cons_zero, List.set_cons_succ, List.getElem_toArray, List.getElem_cons_succ, List.getElem_cons_zero])
      refine wpT_loadRow rfl rfl (by kernel_rfl) HS.out 3 rfl rfl Try.underlying27 rfl (by kernel_rfl) ?_; (try simp only [Act.put, List.setIfInBounds_toArray, List.set_cons_zero, List.set_cons_succ, List.getElem_toArray, List.getElem_cons_succ, List.getElem_cons_zero])
      refine wpT_loadRow rfl rfl (by kernel_rfl) HS.out 2 rfl rfl Try.underlying27 rfl (by kernel_rfl) ?_; (try simp only [Act.put, List.setIfInBounds_toArray, List.set_cons_zero, List.set_cons_succ, List.getElem_toArray, List.getElem_cons_succ, List.getElem_cons_zero])
      refine wpT_loadRow rfl rfl (by kernel_rfl) HS.out 1 rfl rfl Try.underlying41 rfl (by rw [hsz1]; kernel_rfl) ?_; (try simp only [Act.put, List.setIfInBounds_toArray, List.set_cons_zero, List.set_cons_succ, List.getElem_toArray, List.getElem_cons_succ, List.getElem_cons_zero])
      refine wpT_loadRow rfl rfl (by kernel_rfl) HS.out 0 rfl rfl Try.underlying41 rfl (by rw [hsz2]; kernel_rfl) ?_; (try simp only [Act.put, List.setIfInBounds_toArray, List.set_cons_zero, List.set_cons_succ, List.getElem_toArray, List.getElem_cons_succ, List.getElem_cons_zero])
      refine wpT_callF rfl (by kernel_rfl) rfl enESub rfl (subE HV1.out HD1.out HV2.out HD2.out) ?_
      rintro r v4 ⟨a4, b4, c4, e4, f4, hv, hd, rfl, hb⟩
      refine ⟨_, rfl, hb, ?_⟩
      have HS := hide (HS.out.call hb); have HV4 := hide hv; have HD4 := hide hd; clear hv hd hb
      (try simp only [Act.put, List.setIfInBounds_toArray, List.set_cons_zero, List.set_cons_succ, List.getElem_toArray, List.getElem_cons_succ, List.getElem_cons_zero])
      refine wpT_callF rfl (by kernel_rfl) rfl enSubNq rfl (subC _ HZ1.out HZ2.out) ?_
      rintro r y4 ⟨z4, hz, rfl, hb⟩
      refine ⟨_, rfl, hb, ?_⟩
      have HS := hide (HS.out.call hb); have HZ4 := hide hz; have hsz4 : (ivs z4).toArray.size = 16 := ivs_size hz; clear hz hb
      (try simp only [Act.put, List.setIfInBounds_toArray, List.set_cons_zero, List.set_cons_succ, List.getElem_toArray, List.getElem_cons_succ, List.getElem_cons_zero])
      refine wpT_callF rfl (by kernel_rfl) rfl enLSame rfl (lsameC _ HV4.out HD4.out HZ4.out) ?_
      rintro r x4 ⟨rfl, hb⟩
      refine ⟨_, rfl, hb, ?_⟩
      have HS := hide (HS.out.call hb); clear hb
      (try simp only [Act.put, List.setIfInBounds_toArray, List.set_cons_zero, List.set_cons_succ, List.getElem_toArray, List.getElem_cons_succ, List.getElem_cons_zero])
      (refine wpT_pure (v := ?_) rfl (by kernel_rfl) ?_ ?_; rotate_left; (intro wx; go_simp; try go_bits) <;> (with_reducible rfl)); (try simp only [Act.put, List.setIfInBounds_toArray, List.set_cons_zero, List.set_cons_succ, List.getElem_toArray, List.getElem_cons_succ, List.getElem_cons_zero])
      (refine wpT_pure (v := ?_) rfl (by kernel_rfl) ?_ ?_; rotate_left; (intro wx; go_simp; try go_bits) <;> (with_reducible rfl)); (try simp only [Act.put, List.setIfInBounds_toArray, List.set_cons_zero, List.set_cons_succ, List.getElem_toArray, List.getElem_cons_succ, List.getElem_cons_zero])
      refine wpT_loadRow rfl rfl (by kernel_rfl) HS.out 3 rfl rfl Try.underlying27 rfl (by kernel_rfl) ?_; (try simp only [Act.put, List.setIfInBounds_toArray, List.set_cons_zero, List.set_cons_succ, List.getElem_toArray, List.getElem_cons_succ, List.getElem_cons_zero])
      refine wpT_loadRow rfl rfl (by kernel_rfl) HS.out 2 rfl rfl Try.underlying27 rfl (by kernel_rfl) ?_; (try simp only [Act.put, List.setIfInBounds_toArray, List.set_cons_zero, List.set_cons_succ, List.getElem_toArray, List.getElem_cons_succ, List.getElem_cons_zero])
      refine wpT_loadRow rfl rfl (by kernel_rfl) HS.out 1 rfl rfl Try.underlying41 rfl (by rw [hsz1]; kernel_rfl) ?_; (try simp only [Act.put, List.setIfInBounds_toArray, List.set_cons_zero, List.set_cons_succ, List.getElem_toArray, List.getElem_cons_succ, List.getElem_cons_zero])
      refine wpT_loadRow rfl rfl (by kernel_rfl) HS.out 0 rfl rfl Try.underlying41 rfl (by rw [hsz2]; kernel_rfl) ?_; (try simp only [Act.put, List.setIfInBounds_toArray, List.set_cons_zero, List.set_cons_succ, List.getElem_toArray, List.getElem_cons_succ, List.getElem_cons_zero])
      refine wpT_callF rfl (by kernel_rfl) rfl enEMul rfl (mulE HV1.out HD1.out HV2.out HD2.out) ?_
      rintro r v5 ⟨a5, b5, c5, e5, f5, hv, hd, rfl, hb⟩
      refine ⟨_, rfl, hb, ?_⟩
      have HS := hide (HS.out.call hb); have HV5 := hide hv; have HD5 := hide hd; clear hv hd hb
      (try simp only [Act.put, List.setIfInBounds_toArray, List.set_cons_zero, List.set_cons_succ, List.getElem_toArray, List.getElem_cons_succ, List.getElem_cons_zero])
      refine wpT_callF rfl (by kernel_rfl) rfl enMulN rfl (mulC _ HZ1.out HZ2.out) ?_
      rintro r y5 ⟨z5, hz, rfl, hb⟩
      refine ⟨_, rfl, hb, ?_⟩
      have HS := hide (HS.out.call hb); have HZ5 := hide hz; have hsz5 : (ivs z5).toArray.size = 16 := ivs_size hz; clear hz hb
      (try simp only [Act.put, List.setIfInBounds_toArray, List.set_cons_zero, List.set_cons_succ, List.getElem_toArray, List.getElem_cons_succ, List.getElem_cons_zero])
      refine wpT_callF rfl (by kernel_rfl) rfl enLSame rfl (lsameC _ HV5.out HD5.out HZ5.out) ?_
      rintro r x5 ⟨rfl, hb⟩
      refine ⟨_, rfl, hb, ?_⟩
      have HS := hide (HS.out.call hb); clear hb
      (try simp only [Act.put, List.setIfInBounds_toArray, List.set_cons_zero, List.set_cons_succ, List.getElem_toArray, List.getElem_cons_succ, List.getElem_cons_zero])
      (refine wpT_pure (v := ?_) rfl (by kernel_rfl) ?_ ?_; rotate_left; (intro wx; go_simp; try go_bits) <;> (with_reducible rfl)); (try simp only [Act.put, List.setIfInBounds_toArray, List.set_cons_zero, List.set_cons_succ, List.getElem_toArray, List.getElem_cons_succ, List.getElem_cons_zero])
      (refine wpT_pure (v := ?_) rfl (by kernel_rfl) ?_ ?_; rotate_left; (intro wx; go_simp; try go_bits) <;> (with_reducible rfl)); (try simp only [Act.put, List.setIfInBounds_toArray, List.set_cons_zero, List.set_cons_succ, List.getElem_toArray, List.getElem_cons_succ, List.getElem_cons_zero])
      refine wpT_loadRow rfl rfl (by kernel_rfl) HS.out 3 rfl rfl Try.underlying27 rfl (by kernel_rfl) ?_; (try simp only [Act.put, List.setIfInBounds_toArray, List.set_cons_zero, List.set_cons_succ, List.getElem_toArray, List.getElem_cons_succ, List.getElem_cons_zero])
      (refine wpT_pure (v := ?_) rfl (by kernel_rfl) ?_ ?_; rotate_left; (intro wx; go_simp; try go_bits) <;> (with_reducible rfl)); (try simp only [Act.put, List.setIfInBounds_toArray, List.set_cons_zero, List.set_cons_succ, List.getElem_toArray, List.getElem_cons_succ, List.getElem_cons_zero])
      refine wpT_loadRow rfl rfl (by kernel_rfl) HS.out 1 rfl rfl Try.underlying41 rfl (by rw [hsz1]; kernel_rfl) ?_; (try simp only [Act.put, List.setIfInBounds_toArray, List.set_cons_zero, List.set_cons_succ, List.getElem_toArray, List.getElem_cons_succ, List.getElem_cons_zero])
      refine wpT_callF rfl (by kernel_rfl) rfl enENeg rfl (negE HV1.out HD1.out) ?_
      rintro r v6 ⟨a6, b6, c6, e6, f6, hv, hd, rfl, hb⟩
      refine ⟨_, rfl, hb, ?_⟩
      have HS := hide (HS.out.call hb); have HV6 := hide hv; have HD6 := hide hd; clear hv hd hb
      (try simp only [Act.put, List.setIfInBounds_toArray, List.set_cons_zero, List.set_cons_succ, List.getElem_toArray, List.getElem_cons_succ, List.getElem_cons_zero])
      refine wpT_callF rfl (by kernel_rfl) rfl enSubNq rfl (subZ _ HZ1.out) ?_
      rintro r y6 ⟨z6, hz, rfl, hb⟩
      refine ⟨_, rfl, hb, ?_⟩
      have HS := hide (HS.out.call hb); have HZ6 := hide hz; have hsz6 : (ivs z6).toArray.size = 16 := ivs_size hz; clear hz hb
      (try simp only [Act.put, List.setIfInBounds_toArray, List.set_cons_zero, List.set_cons_succ, List.getElem_toArray, List.getElem_cons_succ, List.getElem_cons_zero])
      refine wpT_callF rfl (by kernel_rfl) rfl enLSame rfl (lsameC _ HV6.out HD6.out HZ6.out) ?_
      rintro r x6 ⟨rfl, hb⟩
      refine ⟨_, rfl, hb, ?_⟩
      have HS := hide (HS.out.call hb); clear hb
      (try simp only [Act.put, List.setIfInBounds_toArray, List.set_cons_zero, List.set_cons_succ, List.getElem_toArray, List.getElem_cons_succ, List.getElem_cons_zero])
      (refine wpT_pure (v := ?_) rfl (by kernel_rfl) ?_ ?_; rotate_left; (intro wx; go_simp; try go_bits) <;> (with_reducible rfl)); (try simp only [Act.put, List.setIfInBounds_toArray, List.set_cons_zero, List.set_cons_succ, List.getElem_toArray, List.getElem_cons_succ, List.getElem_cons_zero])
      (refine wpT_pure (v := ?_) rfl (by kernel_rfl) ?_ ?_; rotate_left; (intro wx; go_simp; try go_bits) <;> (with_reducible rfl)); (try simp only [Act.put, List.setIfInBounds_toArray, List.set_cons_zero, List.set_cons_succ, List.getElem_toArray, List.getElem_cons_succ, List.getElem_cons_zero])
      refine wpT_loadRow rfl rfl (by kernel_rfl) HS.out 3 rfl rfl Try.underlying27 rfl (by kernel_rfl) ?_; (try simp only [Act.put, List.setIfInBounds_toArray, List.set_cons_zero, List.set_cons_succ, List.getElem_toArray, List.getElem_cons_succ, List.getElem_cons_zero])
      refine wpT_loadRow rfl rfl (by kernel_rfl) HS.out 1 rfl rfl Try.underlying41 rfl (by rw [hsz1]; kernel_rfl) ?_; (try simp only [Act.put, List.setIfInBounds_toArray, List.set_cons_zero, List.set_cons_succ, List.getElem_toArray, List.getElem_cons_succ, List.getElem_cons_zero])
      refine wpT_callF rfl (by kernel_rfl) rfl enEInv rfl (invE HV1.out HD1.out) ?_
      rintro r v7 ⟨a7, b7, c7, e7, f7, hv, hd, rfl, hb⟩
      refine ⟨_, rfl, hb, ?_⟩
      have HS := hide (HS.out.call hb); have HV7 := hide hv; have HD7 := hide hd; clear hv hd hb
      (try simp only [Act.put, List.setIfInBounds_toArray, List.set_cons_zero, List.set_cons_succ, List.getElem_toArray, List.getElem_cons_succ, List.getElem_cons_zero])
      refine wpT_callF rfl (by kernel_rfl) rfl enInvNq rfl (invN_any _ _ _ HZ1.out) ?_
      rintro r y7 ⟨z7, hz, rfl, hb⟩
      refine ⟨_, rfl, hb, ?_⟩
      have HS := hide (HS.out.call hb); have HZ7 := hide hz; have hsz7 : (ivs z7).toArray.size = 16 := ivs_size hz; clear hz hb
      (try simp only [Act.put, List.setIfInBounds_toArray, List.set_cons_zero, List.set_cons_succ, List.getElem_toArray, List.getElem_cons_succ, List.getElem_cons_zero])
      refine wpT_callF rfl (by kernel_rfl) rfl enLSame rfl (lsameC _ HV7.out HD7.out HZ7.out) ?_
      rintro r x7 ⟨rfl, hb⟩
      refine ⟨_, rfl, hb, ?_⟩
      have HS := hide (HS.out.call hb); clear hb
      (try simp only [Act.put, List.setIfInBounds_toArray, List.set_cons_zero, List.set_cons_succ, List.getElem_toArray, List.getElem_cons_succ, List.getElem_cons_zero])
      (refine wpT_pure (v := ?_) rfl (by kernel_rfl) ?_ ?_; rotate_left; (intro wx; go_simp; try go_bits) <;> (with_reducible rfl)); (try simp only [Act.put, List.setIfInBounds_toArray, List.set_cons_zero, List.set_cons_succ, List.getElem_toArray, List.getElem_cons_succ, List.getElem_cons_zero])
      (refine wpT_pure (v := ?_) rfl (by kernel_rfl) ?_ ?_; rotate_left; (intro wx; go_simp; try go_bits) <;> (with_reducible rfl)); (try simp only [Act.put, List.setIfInBounds_toArray, List.set_cons_zero, List.set_cons_succ, List.getElem_toArray, List.getElem_cons_succ, List.getElem_cons_zero])
      (refine wpT_pure (v := ?_) rfl (by kernel_rfl) ?_ ?_; rotate_left; (intro wx; go_simp; try go_bits) <;> (with_reducible rfl)); (try simp only [Act.put, List.setIfInBounds_toArray, List.set_cons_zero, List.set_cons_succ, List.getElem_toArray, List.getElem_cons_succ, List.getElem_cons_zero])
      (refine wpT_pure (v := ?_) rfl (by kernel_rfl) ?_ ?_; rotate_left; (intro wx; go_simp; try go_bits) <;> (with_reducible rfl)); (try simp only [Act.put, List.setIfInBounds_toArray, List.set_cons_zero, List.set_cons_succ, List.getElem_toArray, List.getElem_cons_succ, List.getElem_cons_zero])
      refine wpT_callF rfl (by kernel_rfl) rfl enSmall rfl (smallE2 n _ HNN.out) ?_
      rintro r v8 ⟨a8, b8, c8, e8, f8, hv, hd, rfl, hb⟩
      refine ⟨_, rfl, hb, ?_⟩
      have HS := hide (HS.out.call hb); have HV8 := hide hv; have HD8 := hide hd; clear hv hd hb
      (try simp only [Act.put, List.setIfInBounds_toArray, List.set_cons_zero, List.set_cons_succ, List.getElem_toArray, List.getElem_cons_succ, List.getElem_cons_zero])
      refine wpT_callF rfl (by kernel_rfl) rfl enSmallN rfl (smallC2 n _ HNN.out) ?_
      rintro r y8 ⟨z8, hz, rfl, hb⟩
      refine ⟨_, rfl, hb, ?_⟩
      have HS := hide (HS.out.call hb); have HZ8 := hide hz; have hsz8 : (ivs z8).toArray.size = 16 := ivs_size hz; clear hz hb
      (try simp only [Act.put, List.setIfInBounds_toArray, List.set_cons_zero, List.set_cons_succ, List.getElem_toArray, List.getElem_cons_succ, List.getElem_cons_zero])
      refine wpT_callF rfl (by kernel_rfl) rfl enLSame rfl (lsameC _ HV8.out HD8.out HZ8.out) ?_
      rintro r x8 ⟨rfl, hb⟩
      refine ⟨_, rfl, hb, ?_⟩
      have HS := hide (HS.out.call hb); clear hb
      (try simp only [Act.put, List.setIfInBounds_toArray, List.set_cons_zero, List.set_cons_succ, List.getElem_toArray, List.getElem_cons_succ, List.getElem_cons_zero])
      (refine wpT_pure (v := ?_) rfl (by kernel_rfl) ?_ ?_; rotate_left; (intro wx; go_simp; try go_bits) <;> (with_reducible rfl)); (try simp only [Act.put, List.setIfInBounds_toArray, List.set_cons_zero, List.set_cons_succ, List.getElem_toArray, List.getElem_cons_succ, List.getElem_cons_zero])
      (refine wpT_pure (v := ?_) rfl (by kernel_rfl) ?_ ?_; rotate_left; (intro wx; go_simp; try go_bits) <;> (with_reducible rfl)); (try simp only [Act.put, List.setIfInBounds_toArray, List.set_cons_zero, List.set_cons_succ, List.getElem_toArray, List.getElem_cons_succ, List.getElem_cons_zero])
      refine wpT_loadRow rfl rfl (by kernel_rfl) HS.out 3 rfl rfl Try.underlying27 rfl (by kernel_rfl) ?_; (try simp only [Act.put, List.setIfInBounds_toArray, List.set_cons_zero, List.set_cons_succ, List.getElem_toArray, List.getElem_cons_succ, List.getElem_cons_zero])
      refine wpT_loadRow rfl rfl (by kernel_rfl) HS.out 2 rfl rfl Try.underlying27 rfl (by kernel_rfl) ?_; (try simp only [Act.put, List.setIfInBounds_toArray, List.set_cons_zero, List.set_cons_succ, List.getElem_toArray, List.getElem_cons_succ, List.getElem_cons_zero])
      refine wpT_loadRow rfl rfl (by kernel_rfl) HS.out 1 rfl rfl Try.underlying41 rfl (by rw [hsz1]; kernel_rfl) ?_; (try simp only [Act.put, List.setIfInBounds_toArray, List.set_cons_zero, List.set_cons_succ, List.getElem_toArray, List.getElem_cons_succ, List.getElem_cons_zero])
      refine wpT_loadRow rfl rfl (by kernel_rfl) HS.out 0 rfl rfl Try.underlying41 rfl (by rw [hsz2]; kernel_rfl) ?_; (try simp only [Act.put, List.setIfInBounds_toArray, List.set_cons_zero, List.set_cons_succ, List.getElem_toArray, List.getElem_cons_succ, List.getElem_cons_zero])
      refine wpT_callF rfl (by kernel_rfl) rfl enSame rfl (HS1.out _) ?_
      rintro r x9 ⟨rfl, hb⟩
      refine ⟨_, rfl, hb, ?_⟩
      have HS := hide (HS.out.call hb); clear hb
      (try simp only [Act.put, List.setIfInBounds_toArray, List.set_cons_zero, List.set_cons_succ, List.getElem_toArray, List.getElem_cons_succ, List.getElem_cons_zero])
      refine wpT_callF rfl (by kernel_rfl) rfl enSameNq rfl (HS2.out _) ?_
      rintro r x10 ⟨rfl, hb⟩
      refine ⟨_, rfl, hb, ?_⟩
      have HS := hide (HS.out.call hb); clear hb
      (try simp only [Act.put, List.setIfInBounds_toArray, List.set_cons_zero, List.set_cons_succ, List.getElem_toArray, List.getElem_cons_succ, List.getElem_cons_zero])
      (refine wpT_pure (v := ?_) rfl (by kernel_rfl) ?_ ?_; rotate_left; (intro wx; go_simp; try go_bits) <;> (with_reducible rfl)); (try simp only [Act.put, List.setIfInBounds_toArray, List.set_cons_zero, List.set_cons_succ, List.getElem_toArray, List.getElem_cons_succ, List.getElem_cons_zero])
      (refine wpT_pure (v := ?_) rfl (by kernel_rfl) ?_ ?_; rotate_left; (intro wx; go_simp; try go_bits) <;> (with_reducible rfl)); (try simp only [Act.put, List.setIfInBounds_toArray, List.set_cons_zero, List.set_cons_succ, List.getElem_toArray, List.getElem_cons_succ, List.getElem_cons_zero])
      (refine wpT_pure (v := ?_) rfl (by kernel_rfl) ?_ ?_; rotate_left; (intro wx; go_simp; try go_bits) <;> (with_reducible rfl)); (try simp only [Act.put, List.setIfInBounds_toArray, List.set_cons_zero, List.set_cons_succ, List.getElem_toArray, List.getElem_cons_succ, List.getElem_cons_zero])
      refine wpT_loadRow rfl rfl (by kernel_rfl) HS.out 3 rfl rfl Try.underlying27 rfl (by kernel_rfl) ?_; (try simp only [Act.put, List.setIfInBounds_toArray, List.set_cons_zero, List.set_cons_succ, List.getElem_toArray, List.getElem_cons_succ, List.getElem_cons_zero])
      refine wpT_loadRow rfl rfl (by kernel_rfl) HS.out 1 rfl rfl Try.underlying41 rfl (by rw [hsz1]; kernel_rfl) ?_; (try simp only [Act.put, List.setIfInBounds_toArray, List.set_cons_zero, List.set_cons_succ, List.getElem_toArray, List.getElem_cons_succ, List.getElem_cons_zero])
      (refine wpT_pure (v := ?_) rfl (by kernel_rfl) ?_ ?_; rotate_left; (intro wx; go_simp; try go_bits) <;> (with_reducible rfl)); (try simp only [Act.put, List.setIfInBounds_toArray, List.set_cons_zero, List.set_cons_succ, List.getElem_toArray, List.getElem_cons_succ, List.getElem_cons_zero])
      refine wpT_callF rfl (by kernel_rfl) rfl enIsZero rfl (HO1.out _) ?_
      rintro r x11 ⟨rfl, hb⟩
      refine ⟨_, rfl, hb, ?_⟩
      have HS := hide (HS.out.call hb); clear hb
      (try simp only [Act.put, List.setIfInBounds_toArray, List.set_cons_zero, List.set_cons_succ, List.getElem_toArray, List.getElem_cons_succ, List.getElem_cons_zero])
      refine wpT_callF rfl (by kernel_rfl) rfl enSameNq rfl (HO2.out _) ?_
      rintro r x12 ⟨rfl, hb⟩
      refine ⟨_, rfl, hb, ?_⟩
      have HS := hide (HS.out.call hb); clear hb
      (try simp only [Act.put, List.setIfInBounds_toArray, List.set_cons_zero, List.set_cons_succ, List.getElem_toArray, List.getElem_cons_succ, List.getElem_cons_zero])
      (refine wpT_pure (v := ?_) rfl (by kernel_rfl) ?_ ?_; rotate_left; (intro wx; go_simp; try go_bits) <;> (with_reducible rfl)); (try simp only [Act.put, List.setIfInBounds_toArray, List.set_cons_zero, List.set_cons_succ, List.getElem_toArray, List.getElem_cons_succ, List.getElem_cons_zero])
      (refine wpT_pure (v := ?_) rfl (by kernel_rfl) ?_ ?_; rotate_left; (intro wx; go_simp; try go_bits) <;> (with_reducible rfl)); (try simp only [Act.put, List.setIfInBounds_toArray, List.set_cons_zero, List.set_cons_succ, List.getElem_toArray, List.getElem_cons_succ, List.getElem_cons_zero])
      (refine wpT_pure (v := ?_) rfl (by kernel_rfl) ?_ ?_; rotate_left; (intro wx; go_simp; try go_bits) <;> (with_reducible rfl)); (try simp only [Act.put, List.setIfInBounds_toArray, List.set_cons_zero, List.set_cons_succ, List.getElem_toArray, List.getElem_cons_succ, List.getElem_cons_zero])
      refine wpT_loadRow rfl rfl (by kernel_rfl) HS.out 3 rfl rfl Try.underlying27 rfl (by kernel_rfl) ?_; (try simp only [Act.put, List.setIfInBounds_toArray, List.set_cons_zero, List.set_cons_succ, List.getElem_toArray, List.getElem_cons_succ, List.getElem_cons_zero])
      refine wpT_loadRow rfl rfl (by kernel_rfl) HS.out 1 rfl rfl Try.underlying41 rfl (by rw [hsz1]; kernel_rfl) ?_; (try simp only [Act.put, List.setIfInBounds_toArray, List.set_cons_zero, List.set_cons_succ, List.getElem_toArray, List.getElem_cons_succ, List.getElem_cons_zero])
      refine wpT_callF rfl (by kernel_rfl) rfl enEIsOdd rfl (HP1.out _) ?_
      rintro r x13 ⟨rfl, hb⟩
      refine ⟨_, rfl, hb, ?_⟩
      have HS := hide (HS.out.call hb); clear hb
      (try simp only [Act.put, List.setIfInBounds_toArray, List.set_cons_zero, List.set_cons_succ, List.getElem_toArray, List.getElem_cons_succ, List.getElem_cons_zero])
      refine wpT_callF rfl (by kernel_rfl) rfl enOddNq rfl (HP2.out _) ?_
      rintro r x14 ⟨rfl, hb⟩
      refine ⟨_, rfl, hb, ?_⟩
      have HS := hide (HS.out.call hb); clear hb
      (try simp only [Act.put, List.setIfInBounds_toArray, List.set_cons_zero, List.set_cons_succ, List.getElem_toArray, List.getElem_cons_succ, List.getElem_cons_zero])
      (refine wpT_pure (v := ?_) rfl (by kernel_rfl) ?_ ?_; rotate_left; (intro wx; go_simp; try go_bits) <;> (with_reducible rfl)); (try simp only [Act.put, List.setIfInBounds_toArray, List.set_cons_zero, List.set_cons_succ, List.getElem_toArray, List.getElem_cons_succ, List.getElem_cons_zero])
      (refine wpT_pure (v := ?_) rfl (by kernel_rfl) ?_ ?_; rotate_left; (intro wx; go_simp; try go_bits) <;> (with_reducible rfl)); (try simp only [Act.put, List.setIfInBounds_toArray, List.set_cons_zero, List.set_cons_succ, List.getElem_toArray, List.getElem_cons_succ, List.getElem_cons_zero])
      (refine wpT_pure (v := ?_) rfl (by kernel_rfl) ?_ ?_; rotate_left; (intro wx; go_simp; try go_bits) <;> (with_reducible rfl)); (try simp only [Act.put, List.setIfInBounds_toArray, List.set_cons_zero, List.set_cons_succ, List.getElem_toArray, List.getElem_cons_succ, List.getElem_cons_zero])
      refine wpT_callF rfl (by kernel_rfl) rfl enAwake rfl (awake_any _) ?_
      rintro r x15 ⟨rfl, hb⟩
      refine ⟨_, rfl, hb, ?_⟩
      have HS := hide (HS.out.call hb); clear hb
      (try simp only [Act.put, List.setIfInBounds_toArray, List.set_cons_zero, List.set_cons_succ, List.getElem_toArray, List.getElem_cons_succ, List.getElem_cons_zero])
      (refine wpT_pure (v := ?_) rfl (by kernel_rfl) ?_ ?_; rotate_left; (intro wx; go_simp; try go_bits) <;> (with_reducible rfl)); (try simp only [Act.put, List.setIfInBounds_toArray, List.set_cons_zero, List.set_cons_succ, List.getElem_toArray, List.getElem_cons_succ, List.getElem_cons_zero])
      (refine wpT_pure (v := ?_) rfl (by kernel_rfl) ?_ ?_; rotate_left; (intro wx; go_simp; try go_bits) <;> (with_reducible rfl)); (try simp only [Act.put, List.setIfInBounds_toArray, List.set_cons_zero, List.set_cons_succ, List.getElem_toArray, List.getElem_cons_succ, List.getElem_cons_zero])
      refine wpT_nil ?_
      go_wp2_with fail
      go_ret
      exact ⟨rfl, HS.out.below⟩
end Go.Proofs.Ytdihedhhkcakoaa
