/-
  Joined of texts of mine, in build order: Ih, CE. Each says what it proves at its own head.
-/
import Derived.Test.YtgahjjdbpjgemaaDoorCards
import Derived.Test.YtgahjjdbpjgemaaDoorTie
import Derived.SevenTiedAt
import Derived.Test.YtgahjjdbpjgemaaDoorPh
set_option linter.unusedSimpArgs false
set_option linter.unusedVariables false

/-
  Layer 4: the walk of PointGroup.
-/
namespace Go.Proofs.YtgahjjdbpjgemaaDoor
open Go.RowKit
set_option linter.unusedSimpArgs false
theorem en17_pg0 (args : Array Value) (w : World) : (callFunc 17 args).run Tryd.prog w = .ok (.enter 17 args) w := by kernel_rfl
theorem en17_pg1 (args : Array Value) (w : World) : (callFunc 17 args).run Tryd.prog w = .ok (.enter 17 args) w := by kernel_rfl
theorem en19_pg0 (args : Array Value) (w : World) : (callFunc 19 args).run Tryd.prog w = .ok (.enter 19 args) w := by kernel_rfl
theorem en19_pg1 (args : Array Value) (w : World) : (callFunc 19 args).run Tryd.prog w = .ok (.enter 19 args) w := by kernel_rfl
theorem en21_pg0 (args : Array Value) (w : World) : (callFunc 21 args).run Tryd.prog w = .ok (.enter 21 args) w := by kernel_rfl
theorem en21_pg1 (args : Array Value) (w : World) : (callFunc 21 args).run Tryd.prog w = .ok (.enter 21 args) w := by kernel_rfl
theorem en23_pg0 (args : Array Value) (w : World) : (callFunc 23 args).run Tryd.prog w = .ok (.enter 23 args) w := by kernel_rfl
theorem en23_pg1 (args : Array Value) (w : World) : (callFunc 23 args).run Tryd.prog w = .ok (.enter 23 args) w := by kernel_rfl
set_option maxRecDepth 100000 in
set_option maxHeartbeats 6400000 in
theorem pointGroup_walk (a b c : Int) (same : Bool) (w : World) (ha : I64 a) (hb : I64 b) (hc : I64 c) : Calls Tryd.prog 4 #[.int .i64 a, .int .i64 b, .int .i64 c, .bool same] w fun e w' => e = .returned (.bool true) ∧ Below w.heap.size w w' := by
  have HS := hide (St.init w NoB)
  have IA := ha
  have IB := hb
  have IC := hc
  clear hb
  cases same with
  | true =>
    obtain ⟨mA, hA⟩ : ∃ m, m = (a % 65536).toNat := ⟨_, rfl⟩
    obtain ⟨mB, hB⟩ : ∃ m, m = (b % 65536).toNat := ⟨_, rfl⟩
    have a1 := and_65535 a
    have a2 := and_65535 b
    rw [← hA] at a1
    rw [← hB] at a2
    clear hA hB
    go_enter Tryd.func4, Tryd.ntmps4
    have M0 := True.intro
    go_upto_region 4 with (first | (clear M16; refine wl_storeR rfl rfl rfl rfl HS.out rowP (.tail (.head)) (by first | exact arr_zP | exact PtN.arr ‹_› | exact PtV.arr ‹_› | exact qE ‹_› ‹_› ‹_› ‹_›) (by first | exact arr_zP | exact PtN.arr ‹_› | exact PtV.arr ‹_› | exact qE ‹_› ‹_› ‹_› ‹_›) ?_; intro wz hS9; have HS := hide hS9; clear hS9; (try simp only [Act.put, nq1, nq2, nq3, nq4, nq5, nq6]); have M17 := True.intro) | (clear M15; refine wl_loadP rfl rfl rfl HS.out (.tail _ (.tail _ (.head _))) rowP (.all (by first | exact arr_zP | exact PtN.arr ‹_› | exact PtV.arr ‹_› | exact qE ‹_› ‹_› ‹_› ‹_›)) ?_; (try simp only [Act.put, nq1, nq2, nq3, nq4, nq5, nq6]); have M16 := True.intro) | (clear M14; refine wl_storeR rfl rfl rfl rfl HS.out rowP (.head) (by first | exact arr_zP | exact PtN.arr ‹_› | exact PtV.arr ‹_› | exact qE ‹_› ‹_› ‹_› ‹_›) (by first | exact arr_zP | exact PtN.arr ‹_› | exact PtV.arr ‹_› | exact qE ‹_› ‹_› ‹_› ‹_›) ?_; intro wz hS9; have HS := hide hS9; clear hS9; (try simp only [Act.put, nq1, nq2, nq3, nq4, nq5, nq6]); have M15 := True.intro) | (clear M13; refine wl_storeR rfl rfl rfl rfl HS.out rowP (.tail (.head)) (by first | exact arr_zP | exact PtN.arr ‹_› | exact PtV.arr ‹_› | exact qE ‹_› ‹_› ‹_› ‹_›) (by first | exact arr_zP | exact PtN.arr ‹_› | exact PtV.arr ‹_› | exact qE ‹_› ‹_› ‹_› ‹_›) ?_; intro wz hS9; have HS := hide hS9; clear hS9; (try simp only [Act.put, nq1, nq2, nq3, nq4, nq5, nq6]); have M14 := True.intro) | (clear M12; refine wl_storeR rfl rfl rfl rfl HS.out rowP (.tail (.tail (.head))) (by first | exact arr_zP | exact PtN.arr ‹_› | exact PtV.arr ‹_› | exact qE ‹_› ‹_› ‹_› ‹_›) (by first | exact arr_zP | exact PtN.arr ‹_› | exact PtV.arr ‹_› | exact qE ‹_› ‹_› ‹_› ‹_›) ?_; intro wz hS9; have HS := hide hS9; clear hS9; (try simp only [Act.put, nq1, nq2, nq3, nq4, nq5, nq6]); have M13 := True.intro) | (clear M11; refine wl_allocR rfl rfl HS.out newP ?_; intro g11 wz hS9; have HS := hide hS9; clear hS9; (try simp only [Act.put, nq1, nq2, nq3, nq4, nq5, nq6]); have M12 := True.intro) | (clear M10; refine wl_allocR rfl rfl HS.out newP ?_; intro g10 wz hS9; have HS := hide hS9; clear hS9; (try simp only [Act.put, nq1, nq2, nq3, nq4, nq5, nq6]); have M11 := True.intro) | (clear M9; refine wl_allocR rfl rfl HS.out newP ?_; intro g9 wz hS9; have HS := hide hS9; clear hS9; (try simp only [Act.put, nq1, nq2, nq3, nq4, nq5, nq6]); have M10 := True.intro) | (clear M8; go_at_call 11; (with_reducible refine (mulP_any _ _ _ _ _ (by first | assumption | exact PtN.v ‹_›) (smL_len _) (by omega) hrs8).mono ?_); rintro e wy ⟨z9, hz9, rfl, hb⟩; have HS := hide (HS.out.call hb); have M9 := True.intro) | (clear M7; go_at_call 12; (with_reducible refine (small_any _ _ (by assumption)).mono ?_); rintro e wy ⟨gs8, rfl, hb, hrs8⟩; have HS := hide (HS.out.call hb); have M8 := True.intro) | (clear M6; go_at_call 10; (with_reducible refine (baseP _).mono ?_); rintro e wy ⟨z7, hz7, rfl, hb⟩; have HS := hide (HS.out.call hb); have M7 := True.intro) | (clear M5; go_at_call 11; (with_reducible refine (mulP_any _ _ _ _ _ (by first | assumption | exact PtN.v ‹_›) (smL_len _) (by omega) hrs5).mono ?_); rintro e wy ⟨z6, hz6, rfl, hb⟩; have HS := hide (HS.out.call hb); have M6 := True.intro) | (clear M4; go_at_call 12; (with_reducible refine (small_any _ _ (by assumption)).mono ?_); rintro e wy ⟨gs5, rfl, hb, hrs5⟩; have HS := hide (HS.out.call hb); have M5 := True.intro) | (clear M3; go_at_call 10; (with_reducible refine (baseP _).mono ?_); rintro e wy ⟨z4, hz4, rfl, hb⟩; have HS := hide (HS.out.call hb); have M4 := True.intro) | (clear M2; go_at_call 11; (with_reducible refine (mulP_any _ _ _ _ _ (by first | assumption | exact PtN.v ‹_›) (smL_len _) (by omega) hrs2).mono ?_); rintro e wy ⟨z3, hz3, rfl, hb⟩; have HS := hide (HS.out.call hb); have M3 := True.intro) | (clear M1; go_at_call 12; (with_reducible refine (small_any _ _ (by assumption)).mono ?_); rintro e wy ⟨gs2, rfl, hb, hrs2⟩; have HS := hide (HS.out.call hb); have M2 := True.intro) | (clear M0; go_at_call 10; (with_reducible refine (baseP _).mono ?_); rintro e wy ⟨z1, hz1, rfl, hb⟩; have HS := hide (HS.out.call hb); have M1 := True.intro))
    have HS := hide HS.out.drew
    refine wp_region_T [(0, 0), (1, 0), (3, 0), (4, 0), (2, 2), (5, 2), (6, 2), (7, 1), (8, 1), (9, 0), (10, 0), (12, 0), (14, 0), (15, 0), (16, 0), (11, 2), (13, 2), (17, 2), (18, 2), (19, 2), (20, 1), (21, 1), (22, 1), (23, 0), (24, 0), (25, 2), (26, 2), (27, 2), (28, 2), (29, 1), (30, 1), (31, 1), (32, 0), (35, 0), (33, 2), (34, 2), (36, 2), (37, 1), (38, 1)] (by kernel_rfl) (by kernel_rfl) (fun _ _ _ _ h => h) ?_
    refine wpT_loadP rfl rfl rfl rfl HS.out (.tail _ (.tail _ (.head _))) rowP (.all (by first | exact arr_zP | exact PtN.arr ‹_› | exact PtV.arr ‹_› | exact qE ‹_› ‹_› ‹_› ‹_›)) ?_; (try simp only [Act.put, nq1, nq2, nq3, nq4, nq5, nq6])
    refine wpT_loadP rfl rfl rfl rfl HS.out (.tail _ (.head _)) rowP (.all (by first | exact arr_zP | exact PtN.arr ‹_› | exact PtV.arr ‹_› | exact qE ‹_› ‹_› ‹_› ‹_›)) ?_; (try simp only [Act.put, nq1, nq2, nq3, nq4, nq5, nq6])
    refine wpT_loadP rfl rfl rfl rfl HS.out (.tail _ (.head _)) rowP (.all (by first | exact arr_zP | exact PtN.arr ‹_› | exact PtV.arr ‹_› | exact qE ‹_› ‹_› ‹_› ‹_›)) ?_; (try simp only [Act.put, nq1, nq2, nq3, nq4, nq5, nq6])
    refine wpT_loadP rfl rfl rfl rfl HS.out (.tail _ (.tail _ (.head _))) rowP (.all (by first | exact arr_zP | exact PtN.arr ‹_› | exact PtV.arr ‹_› | exact qE ‹_› ‹_› ‹_› ‹_›)) ?_; (try simp only [Act.put, nq1, nq2, nq3, nq4, nq5, nq6])
    refine wpT_callF rfl rfl rfl en17_pg1 rfl (addP _ (by first | assumption | exact PtN.v ‹_›) (by first | assumption | exact PtN.v ‹_›)) ?_; rintro e wy ⟨z10, hz10, rfl, hb⟩; refine ⟨_, rfl, hb, ?_⟩; have HS := hide (HS.out.call hb); (try simp only [Act.put, nq1, nq2, nq3, nq4, nq5, nq6])
    refine wpT_callF rfl rfl rfl en17_pg1 rfl (addP _ (by first | assumption | exact PtN.v ‹_›) (by first | assumption | exact PtN.v ‹_›)) ?_; rintro e wy ⟨z11, hz11, rfl, hb⟩; refine ⟨_, rfl, hb, ?_⟩; have HS := hide (HS.out.call hb); (try simp only [Act.put, nq1, nq2, nq3, nq4, nq5, nq6])
    refine wpT_callF rfl rfl rfl en21_pg1 rfl (sameP _ (by first | assumption | exact PtN.v ‹_›) (by first | assumption | exact PtN.v ‹_›)) ?_; rintro e wy ⟨rfl, hb⟩; rw [dec_t (ed_comm _ _)]; refine ⟨_, rfl, hb, ?_⟩; have HS := hide (HS.out.call hb); (try simp only [Act.put, nq1, nq2, nq3, nq4, nq5, nq6])
    (refine wpT_pure (v := ?_) rfl rfl ?_ ?_; rotate_left; (intro wx; go_simp; try go_bits) <;> (with_reducible rfl)); (try simp only [Act.put, nq1, nq2, nq3, nq4, nq5, nq6])
    (refine wpT_pure (v := ?_) rfl rfl ?_ ?_; rotate_left; (intro wx; go_simp; try go_bits) <;> (with_reducible rfl)); (try simp only [Act.put, nq1, nq2, nq3, nq4, nq5, nq6])
    refine wpT_loadP rfl rfl rfl rfl HS.out (.tail _ (.tail _ (.head _))) rowP (.all (by first | exact arr_zP | exact PtN.arr ‹_› | exact PtV.arr ‹_› | exact qE ‹_› ‹_› ‹_› ‹_›)) ?_; (try simp only [Act.put, nq1, nq2, nq3, nq4, nq5, nq6])
    refine wpT_loadP rfl rfl rfl rfl HS.out (.tail _ (.head _)) rowP (.all (by first | exact arr_zP | exact PtN.arr ‹_› | exact PtV.arr ‹_› | exact qE ‹_› ‹_› ‹_› ‹_›)) ?_; (try simp only [Act.put, nq1, nq2, nq3, nq4, nq5, nq6])
    refine wpT_loadP rfl rfl rfl rfl HS.out (.head _) rowP (.all (by first | exact arr_zP | exact PtN.arr ‹_› | exact PtV.arr ‹_› | exact qE ‹_› ‹_› ‹_› ‹_›)) ?_; (try simp only [Act.put, nq1, nq2, nq3, nq4, nq5, nq6])
    refine wpT_loadP rfl rfl rfl rfl HS.out (.tail _ (.tail _ (.head _))) rowP (.all (by first | exact arr_zP | exact PtN.arr ‹_› | exact PtV.arr ‹_› | exact qE ‹_› ‹_› ‹_› ‹_›)) ?_; (try simp only [Act.put, nq1, nq2, nq3, nq4, nq5, nq6])
    refine wpT_loadP rfl rfl rfl rfl HS.out (.tail _ (.head _)) rowP (.all (by first | exact arr_zP | exact PtN.arr ‹_› | exact PtV.arr ‹_› | exact qE ‹_› ‹_› ‹_› ‹_›)) ?_; (try simp only [Act.put, nq1, nq2, nq3, nq4, nq5, nq6])
    refine wpT_loadP rfl rfl rfl rfl HS.out (.head _) rowP (.all (by first | exact arr_zP | exact PtN.arr ‹_› | exact PtV.arr ‹_› | exact qE ‹_› ‹_› ‹_› ‹_›)) ?_; (try simp only [Act.put, nq1, nq2, nq3, nq4, nq5, nq6])
    refine wpT_callF rfl rfl rfl en17_pg1 rfl (addP _ (by first | assumption | exact PtN.v ‹_›) (by first | assumption | exact PtN.v ‹_›)) ?_; rintro e wy ⟨z13, hz13, rfl, hb⟩; refine ⟨_, rfl, hb, ?_⟩; have HS := hide (HS.out.call hb); (try simp only [Act.put, nq1, nq2, nq3, nq4, nq5, nq6])
    refine wpT_callF rfl rfl rfl en17_pg1 rfl (addP _ (by first | assumption | exact PtN.v ‹_›) (by first | assumption | exact PtN.v ‹_›)) ?_; rintro e wy ⟨z14, hz14, rfl, hb⟩; refine ⟨_, rfl, hb, ?_⟩; have HS := hide (HS.out.call hb); (try simp only [Act.put, nq1, nq2, nq3, nq4, nq5, nq6])
    refine wpT_callF rfl rfl rfl en17_pg1 rfl (addP _ (by first | assumption | exact PtN.v ‹_›) (by first | assumption | exact PtN.v ‹_›)) ?_; rintro e wy ⟨z15, hz15, rfl, hb⟩; refine ⟨_, rfl, hb, ?_⟩; have HS := hide (HS.out.call hb); (try simp only [Act.put, nq1, nq2, nq3, nq4, nq5, nq6])
    refine wpT_callF rfl rfl rfl en17_pg1 rfl (addP _ (by first | assumption | exact PtN.v ‹_›) (by first | assumption | exact PtN.v ‹_›)) ?_; rintro e wy ⟨z16, hz16, rfl, hb⟩; refine ⟨_, rfl, hb, ?_⟩; have HS := hide (HS.out.call hb); (try simp only [Act.put, nq1, nq2, nq3, nq4, nq5, nq6])
    refine wpT_callF rfl rfl rfl en21_pg1 rfl (sameP _ (by first | assumption | exact PtN.v ‹_›) (by first | assumption | exact PtN.v ‹_›)) ?_; rintro e wy ⟨rfl, hb⟩; rw [dec_t (ed_assoc _ _ _)]; refine ⟨_, rfl, hb, ?_⟩; have HS := hide (HS.out.call hb); (try simp only [Act.put, nq1, nq2, nq3, nq4, nq5, nq6])
    (refine wpT_pure (v := ?_) rfl rfl ?_ ?_; rotate_left; (intro wx; go_simp; try go_bits) <;> (with_reducible rfl)); (try simp only [Act.put, nq1, nq2, nq3, nq4, nq5, nq6])
    (refine wpT_pure (v := ?_) rfl rfl ?_ ?_; rotate_left; (intro wx; go_simp; try go_bits) <;> (with_reducible rfl)); (try simp only [Act.put, nq1, nq2, nq3, nq4, nq5, nq6])
    (refine wpT_pure (v := ?_) rfl rfl ?_ ?_; rotate_left; (intro wx; go_simp; try go_bits) <;> (with_reducible rfl)); (try simp only [Act.put, nq1, nq2, nq3, nq4, nq5, nq6])
    refine wpT_loadP rfl rfl rfl rfl HS.out (.tail _ (.tail _ (.head _))) rowP (.all (by first | exact arr_zP | exact PtN.arr ‹_› | exact PtV.arr ‹_› | exact qE ‹_› ‹_› ‹_› ‹_›)) ?_; (try simp only [Act.put, nq1, nq2, nq3, nq4, nq5, nq6])
    refine wpT_loadP rfl rfl rfl rfl HS.out (.tail _ (.tail _ (.head _))) rowP (.all (by first | exact arr_zP | exact PtN.arr ‹_› | exact PtV.arr ‹_› | exact qE ‹_› ‹_› ‹_› ‹_›)) ?_; (try simp only [Act.put, nq1, nq2, nq3, nq4, nq5, nq6])
    refine wpT_callF rfl rfl rfl en19_pg1 rfl (negP _ (by first | assumption | exact PtN.v ‹_›)) ?_; rintro e wy ⟨z18, hz18, rfl, hb⟩; refine ⟨_, rfl, hb, ?_⟩; have HS := hide (HS.out.call hb); (try simp only [Act.put, nq1, nq2, nq3, nq4, nq5, nq6])
    refine wpT_callF rfl rfl rfl en17_pg1 rfl (addP _ (by first | assumption | exact PtN.v ‹_›) (by first | assumption | exact PtN.v ‹_›)) ?_; rintro e wy ⟨z19, hz19, rfl, hb⟩; refine ⟨_, rfl, hb, ?_⟩; have HS := hide (HS.out.call hb); (try simp only [Act.put, nq1, nq2, nq3, nq4, nq5, nq6])
    refine wpT_callF rfl rfl rfl en23_pg1 rfl (zeroP _) ?_; rintro e wy ⟨z20, hz20, rfl, hb⟩; refine ⟨_, rfl, hb, ?_⟩; have HS := hide (HS.out.call hb); (try simp only [Act.put, nq1, nq2, nq3, nq4, nq5, nq6])
    refine wpT_callF rfl rfl rfl en21_pg1 rfl (sameP _ (by first | assumption | exact PtN.v ‹_›) (by first | assumption | exact PtN.v ‹_›)) ?_; rintro e wy ⟨rfl, hb⟩; rw [dec_t (ed_neg _)]; refine ⟨_, rfl, hb, ?_⟩; have HS := hide (HS.out.call hb); (try simp only [Act.put, nq1, nq2, nq3, nq4, nq5, nq6])
    (refine wpT_pure (v := ?_) rfl rfl ?_ ?_; rotate_left; (intro wx; go_simp; try go_bits) <;> (with_reducible rfl)); (try simp only [Act.put, nq1, nq2, nq3, nq4, nq5, nq6])
    (refine wpT_pure (v := ?_) rfl rfl ?_ ?_; rotate_left; (intro wx; go_simp; try go_bits) <;> (with_reducible rfl)); (try simp only [Act.put, nq1, nq2, nq3, nq4, nq5, nq6])
    (refine wpT_pure (v := ?_) rfl rfl ?_ ?_; rotate_left; (intro wx; go_simp; try go_bits) <;> (with_reducible rfl)); (try simp only [Act.put, nq1, nq2, nq3, nq4, nq5, nq6])
    refine wpT_loadP rfl rfl rfl rfl HS.out (.tail _ (.tail _ (.head _))) rowP (.all (by first | exact arr_zP | exact PtN.arr ‹_› | exact PtV.arr ‹_› | exact qE ‹_› ‹_› ‹_› ‹_›)) ?_; (try simp only [Act.put, nq1, nq2, nq3, nq4, nq5, nq6])
    refine wpT_loadP rfl rfl rfl rfl HS.out (.tail _ (.tail _ (.head _))) rowP (.all (by first | exact arr_zP | exact PtN.arr ‹_› | exact PtV.arr ‹_› | exact qE ‹_› ‹_› ‹_› ‹_›)) ?_; (try simp only [Act.put, nq1, nq2, nq3, nq4, nq5, nq6])
    refine wpT_callF rfl rfl rfl en23_pg1 rfl (zeroP _) ?_; rintro e wy ⟨z22, hz22, rfl, hb⟩; refine ⟨_, rfl, hb, ?_⟩; have HS := hide (HS.out.call hb); (try simp only [Act.put, nq1, nq2, nq3, nq4, nq5, nq6])
    refine wpT_callF rfl rfl rfl en17_pg1 rfl (addP _ (by first | assumption | exact PtN.v ‹_›) (by first | assumption | exact PtN.v ‹_›)) ?_; rintro e wy ⟨z23, hz23, rfl, hb⟩; refine ⟨_, rfl, hb, ?_⟩; have HS := hide (HS.out.call hb); (try simp only [Act.put, nq1, nq2, nq3, nq4, nq5, nq6])
    refine wpT_callF rfl rfl rfl en21_pg1 rfl (sameP _ (by first | assumption | exact PtN.v ‹_›) (by first | assumption | exact PtN.v ‹_›)) ?_; rintro e wy ⟨rfl, hb⟩; rw [dec_t (ed_zero _)]; refine ⟨_, rfl, hb, ?_⟩; have HS := hide (HS.out.call hb); (try simp only [Act.put, nq1, nq2, nq3, nq4, nq5, nq6])
    (refine wpT_pure (v := ?_) rfl rfl ?_ ?_; rotate_left; (intro wx; go_simp; try go_bits) <;> (with_reducible rfl)); (try simp only [Act.put, nq1, nq2, nq3, nq4, nq5, nq6])
    (refine wpT_pure (v := ?_) rfl rfl ?_ ?_; rotate_left; (intro wx; go_simp; try go_bits) <;> (with_reducible rfl)); (try simp only [Act.put, nq1, nq2, nq3, nq4, nq5, nq6])
    refine wpT_nil ?_
    go_upto_region 9 with fail
    have hcv := Go.Joins.run_convert_bytes_const_at (P := Tryd.prog) wy 22 5 #[.int .u8 237, .int .u8 211, .int .u8 245, .int .u8 92, .int .u8 26, .int .u8 99, .int .u8 18, .int .u8 88, .int .u8 214, .int .u8 156, .int .u8 247, .int .u8 162, .int .u8 222, .int .u8 249, .int .u8 222, .int .u8 20] 16 16 wy.heap.size rfl Tryd.underlying22 Tryd.underlying5
    have R0 := rd_mark wy (bvs l0L) 5 (16, 17) 16 l0_len (by decide)
    rw [l0_arr] at R0
    have HR0 := hide R0
    clear R0
    go_upto_region 10 with (at_builtin; refine wl_appendZnew (k := 16) (l := l0L) (n := 16) (c := 16) rfl rfl Tryd.underlying22 Tryd.underlying3 infoB (HS.out.skip _) rfl HR0.out rfl rfl (by omega) (by omega) (by omega) (by omega) ?_; intro A2 cl w2 hS2 hb2; have HS := hide hS2; clear hS2 hb2)
    clear hcv
    obtain ⟨gl, c1', hv, hc1, hcm, hcs, hfr, _⟩ := HS.out.rowOpen 0 rfl (by omega)
    injection hv with hv1 _ hv3
    subst hv1 hv3
    have kl31 := hcs 31 _ (bvs_get (show (l0L ++ List.replicate 16 0)[31]? = some 0 from rfl))
    have fl31 := hfr 31
    clear hcs hfr hc1 hcm
    go_upto_region 11 with fail
    have h3 := HS.out.rowSet 0 rfl 31 (.int .u8 (16 : Nat)) (by omega)
    rw [List.set_cons_zero, bvs_set _ _ _ (by omega), l0_set] at h3
    change St w NoB (w2.setCell ⟨gl, 31, none⟩ (.int .u8 16)) _ at h3
    have HS := hide h3
    clear h3 fl31 kl31
    have M17 := True.intro
    go_wp2_with (first | (clear M21; go_at_call 9; (with_reducible refine (awake4_any _).mono ?_); rintro e wy ⟨rfl, hb⟩; have HS := hide (HS.out.call hb); have M22 := True.intro) | (clear M20; go_at_call 21; (with_reducible refine (sameP _ (by first | assumption | exact PtN.v ‹_›) (by first | assumption | exact PtN.v ‹_›)).mono ?_); rintro e wy ⟨rfl, hb⟩; rw [dec_t l_mul]; have HS := hide (HS.out.call hb); have M21 := True.intro) | (clear M19; go_at_call 23; (with_reducible refine (zeroP _).mono ?_); rintro e wy ⟨z27, hz27, rfl, hb⟩; have HS := hide (HS.out.call hb); have M20 := True.intro) | (clear M18; go_at_call 11; (with_reducible refine (mulP_any _ _ _ _ _ (by first | assumption | exact PtN.v ‹_›) lL_len (by omega) (HS.out.rd 0 rfl)).mono ?_); rintro e wy ⟨z26, hz26, rfl, hb⟩; have HS := hide (HS.out.call hb); have M19 := True.intro) | (clear M17; go_at_call 10; (with_reducible refine (baseP _).mono ?_); rintro e wy ⟨z25, hz25, rfl, hb⟩; have HS := hide (HS.out.call hb); have M18 := True.intro))
    go_ret
    exact ⟨rfl, HS.out.below⟩
  | false =>
    obtain ⟨mA, hA⟩ : ∃ m, m = (a % 65536).toNat := ⟨_, rfl⟩
    obtain ⟨mB, hB⟩ : ∃ m, m = (b % 65536).toNat := ⟨_, rfl⟩
    have a1 := and_65535 a
    have a2 := and_65535 b
    have v1 := smL_val a
    have v2 := smL_val b
    rw [← hA] at a1 v1
    rw [← hB] at a2 v2
    have bA : mA < 65536 := by omega
    have bB : mB < 65536 := by omega
    have HV0 := hide v1
    have HV1 := hide v2
    have HVS := hide (s3_val (mA + mB) (by omega))
    have HBV := hide (show [Value.int .u8 (((mA : Int) + (mB : Int)) % 256), .int .u8 (((mA : Int) + (mB : Int)) / 256 % 256), .int .u8 (((mA : Int) + (mB : Int)) / 65536)] = bvs (s3L (mA + mB)) by
      rw [s3_bvs (mA + mB) (by omega), show ((mA : Int) + (mB : Int)) % 256 = (((mA + mB) % 256 : Nat) : Int) by omega, show ((mA : Int) + (mB : Int)) / 256 % 256 = (((mA + mB) / 256 % 256 : Nat) : Int) by omega, show ((mA : Int) + (mB : Int)) / 65536 = (((mA + mB) / 65536 : Nat) : Int) by omega])
    clear hA hB v1 v2
    go_enter Tryd.func4, Tryd.ntmps4
    have M0 := True.intro
    go_upto_region 4 with (first | (clear M14; refine wl_storeR rfl rfl rfl rfl HS.out rowP (.head) (by first | exact arr_zP | exact PtN.arr ‹_› | exact PtV.arr ‹_› | exact qE ‹_› ‹_› ‹_› ‹_›) (by first | exact arr_zP | exact PtN.arr ‹_› | exact PtV.arr ‹_› | exact qE ‹_› ‹_› ‹_› ‹_›) ?_; intro wz hS9; have HS := hide hS9; clear hS9; (try simp only [Act.put, nq1, nq2, nq3, nq4, nq5, nq6]); have M15 := True.intro) | (clear M13; refine wl_storeR rfl rfl rfl rfl HS.out rowP (.tail (.head)) (by first | exact arr_zP | exact PtN.arr ‹_› | exact PtV.arr ‹_› | exact qE ‹_› ‹_› ‹_› ‹_›) (by first | exact arr_zP | exact PtN.arr ‹_› | exact PtV.arr ‹_› | exact qE ‹_› ‹_› ‹_› ‹_›) ?_; intro wz hS9; have HS := hide hS9; clear hS9; (try simp only [Act.put, nq1, nq2, nq3, nq4, nq5, nq6]); have M14 := True.intro) | (clear M12; refine wl_storeR rfl rfl rfl rfl HS.out rowP (.tail (.tail (.head))) (by first | exact arr_zP | exact PtN.arr ‹_› | exact PtV.arr ‹_› | exact qE ‹_› ‹_› ‹_› ‹_›) (by first | exact arr_zP | exact PtN.arr ‹_› | exact PtV.arr ‹_› | exact qE ‹_› ‹_› ‹_› ‹_›) ?_; intro wz hS9; have HS := hide hS9; clear hS9; (try simp only [Act.put, nq1, nq2, nq3, nq4, nq5, nq6]); have M13 := True.intro) | (clear M11; refine wl_allocR rfl rfl HS.out newP ?_; intro g11 wz hS9; have HS := hide hS9; clear hS9; (try simp only [Act.put, nq1, nq2, nq3, nq4, nq5, nq6]); have M12 := True.intro) | (clear M10; refine wl_allocR rfl rfl HS.out newP ?_; intro g10 wz hS9; have HS := hide hS9; clear hS9; (try simp only [Act.put, nq1, nq2, nq3, nq4, nq5, nq6]); have M11 := True.intro) | (clear M9; refine wl_allocR rfl rfl HS.out newP ?_; intro g9 wz hS9; have HS := hide hS9; clear hS9; (try simp only [Act.put, nq1, nq2, nq3, nq4, nq5, nq6]); have M10 := True.intro) | (clear M8; go_at_call 11; (with_reducible refine (mulP_any _ _ _ _ _ (by first | assumption | exact PtN.v ‹_›) (smL_len _) (by omega) hrs8).mono ?_); rintro e wy ⟨z9, hz9, rfl, hb⟩; have HS := hide (HS.out.call hb); have M9 := True.intro) | (clear M7; go_at_call 12; (with_reducible refine (small_any _ _ (by assumption)).mono ?_); rintro e wy ⟨gs8, rfl, hb, hrs8⟩; have HS := hide (HS.out.call hb); have M8 := True.intro) | (clear M6; go_at_call 10; (with_reducible refine (baseP _).mono ?_); rintro e wy ⟨z7, hz7, rfl, hb⟩; have HS := hide (HS.out.call hb); have M7 := True.intro) | (clear M5; go_at_call 11; (with_reducible refine (mulP_any _ _ _ _ _ (by first | assumption | exact PtN.v ‹_›) (smL_len _) (by omega) hrs5).mono ?_); rintro e wy ⟨z6, hz6, rfl, hb⟩; have HS := hide (HS.out.call hb); have M6 := True.intro) | (clear M4; go_at_call 12; (with_reducible refine (small_any _ _ (by assumption)).mono ?_); rintro e wy ⟨gs5, rfl, hb, hrs5⟩; have HS := hide (HS.out.call hb); have M5 := True.intro) | (clear M3; go_at_call 10; (with_reducible refine (baseP _).mono ?_); rintro e wy ⟨z4, hz4, rfl, hb⟩; have HS := hide (HS.out.call hb); have M4 := True.intro) | (clear M2; go_at_call 11; (with_reducible refine (mulP_any _ _ _ _ _ (by first | assumption | exact PtN.v ‹_›) (smL_len _) (by omega) hrs2).mono ?_); rintro e wy ⟨z3, hz3, rfl, hb⟩; have HS := hide (HS.out.call hb); have M3 := True.intro) | (clear M1; go_at_call 12; (with_reducible refine (small_any _ _ (by assumption)).mono ?_); rintro e wy ⟨gs2, rfl, hb, hrs2⟩; have HS := hide (HS.out.call hb); have M2 := True.intro) | (clear M0; go_at_call 10; (with_reducible refine (baseP _).mono ?_); rintro e wy ⟨z1, hz1, rfl, hb⟩; have HS := hide (HS.out.call hb); have M1 := True.intro))
    have HS := hide HS.out.drew
    refine wp_region_T [(0, 0), (1, 0), (3, 0), (4, 0), (2, 2), (5, 2), (6, 2), (7, 1), (8, 1), (9, 0), (10, 0), (12, 0), (14, 0), (15, 0), (16, 0), (11, 2), (13, 2), (17, 2), (18, 2), (19, 2), (20, 1), (21, 1), (22, 1), (23, 0), (24, 0), (25, 2), (26, 2), (27, 2), (28, 2), (29, 1), (30, 1), (31, 1), (32, 0), (35, 0), (33, 2), (34, 2), (36, 2), (37, 1), (38, 1)] (by kernel_rfl) (by kernel_rfl) (fun _ _ _ _ h => h) ?_
    refine wpT_loadP rfl rfl rfl rfl HS.out (.tail _ (.tail _ (.head _))) rowP (.all (by first | exact arr_zP | exact PtN.arr ‹_› | exact PtV.arr ‹_› | exact qE ‹_› ‹_› ‹_› ‹_›)) ?_; (try simp only [Act.put, nq1, nq2, nq3, nq4, nq5, nq6])
    refine wpT_loadP rfl rfl rfl rfl HS.out (.tail _ (.head _)) rowP (.all (by first | exact arr_zP | exact PtN.arr ‹_› | exact PtV.arr ‹_› | exact qE ‹_› ‹_› ‹_› ‹_›)) ?_; (try simp only [Act.put, nq1, nq2, nq3, nq4, nq5, nq6])
    refine wpT_loadP rfl rfl rfl rfl HS.out (.tail _ (.head _)) rowP (.all (by first | exact arr_zP | exact PtN.arr ‹_› | exact PtV.arr ‹_› | exact qE ‹_› ‹_› ‹_› ‹_›)) ?_; (try simp only [Act.put, nq1, nq2, nq3, nq4, nq5, nq6])
    refine wpT_loadP rfl rfl rfl rfl HS.out (.tail _ (.tail _ (.head _))) rowP (.all (by first | exact arr_zP | exact PtN.arr ‹_› | exact PtV.arr ‹_› | exact qE ‹_› ‹_› ‹_› ‹_›)) ?_; (try simp only [Act.put, nq1, nq2, nq3, nq4, nq5, nq6])
    refine wpT_callF rfl rfl rfl en17_pg0 rfl (addP _ (by first | assumption | exact PtN.v ‹_›) (by first | assumption | exact PtN.v ‹_›)) ?_; rintro e wy ⟨z10, hz10, rfl, hb⟩; refine ⟨_, rfl, hb, ?_⟩; have HS := hide (HS.out.call hb); (try simp only [Act.put, nq1, nq2, nq3, nq4, nq5, nq6])
    refine wpT_callF rfl rfl rfl en17_pg0 rfl (addP _ (by first | assumption | exact PtN.v ‹_›) (by first | assumption | exact PtN.v ‹_›)) ?_; rintro e wy ⟨z11, hz11, rfl, hb⟩; refine ⟨_, rfl, hb, ?_⟩; have HS := hide (HS.out.call hb); (try simp only [Act.put, nq1, nq2, nq3, nq4, nq5, nq6])
    refine wpT_callF rfl rfl rfl en21_pg0 rfl (sameP _ (by first | assumption | exact PtN.v ‹_›) (by first | assumption | exact PtN.v ‹_›)) ?_; rintro e wy ⟨rfl, hb⟩; rw [dec_t (ed_comm _ _)]; refine ⟨_, rfl, hb, ?_⟩; have HS := hide (HS.out.call hb); (try simp only [Act.put, nq1, nq2, nq3, nq4, nq5, nq6])
    (refine wpT_pure (v := ?_) rfl rfl ?_ ?_; rotate_left; (intro wx; go_simp; try go_bits) <;> (with_reducible rfl)); (try simp only [Act.put, nq1, nq2, nq3, nq4, nq5, nq6])
    (refine wpT_pure (v := ?_) rfl rfl ?_ ?_; rotate_left; (intro wx; go_simp; try go_bits) <;> (with_reducible rfl)); (try simp only [Act.put, nq1, nq2, nq3, nq4, nq5, nq6])
    refine wpT_loadP rfl rfl rfl rfl HS.out (.tail _ (.tail _ (.head _))) rowP (.all (by first | exact arr_zP | exact PtN.arr ‹_› | exact PtV.arr ‹_› | exact qE ‹_› ‹_› ‹_› ‹_›)) ?_; (try simp only [Act.put, nq1, nq2, nq3, nq4, nq5, nq6])
    refine wpT_loadP rfl rfl rfl rfl HS.out (.tail _ (.head _)) rowP (.all (by first | exact arr_zP | exact PtN.arr ‹_› | exact PtV.arr ‹_› | exact qE ‹_› ‹_› ‹_› ‹_›)) ?_; (try simp only [Act.put, nq1, nq2, nq3, nq4, nq5, nq6])
    refine wpT_loadP rfl rfl rfl rfl HS.out (.head _) rowP (.all (by first | exact arr_zP | exact PtN.arr ‹_› | exact PtV.arr ‹_› | exact qE ‹_› ‹_› ‹_› ‹_›)) ?_; (try simp only [Act.put, nq1, nq2, nq3, nq4, nq5, nq6])
    refine wpT_loadP rfl rfl rfl rfl HS.out (.tail _ (.tail _ (.head _))) rowP (.all (by first | exact arr_zP | exact PtN.arr ‹_› | exact PtV.arr ‹_› | exact qE ‹_› ‹_› ‹_› ‹_›)) ?_; (try simp only [Act.put, nq1, nq2, nq3, nq4, nq5, nq6])
    refine wpT_loadP rfl rfl rfl rfl HS.out (.tail _ (.head _)) rowP (.all (by first | exact arr_zP | exact PtN.arr ‹_› | exact PtV.arr ‹_› | exact qE ‹_› ‹_› ‹_› ‹_›)) ?_; (try simp only [Act.put, nq1, nq2, nq3, nq4, nq5, nq6])
    refine wpT_loadP rfl rfl rfl rfl HS.out (.head _) rowP (.all (by first | exact arr_zP | exact PtN.arr ‹_› | exact PtV.arr ‹_› | exact qE ‹_› ‹_› ‹_› ‹_›)) ?_; (try simp only [Act.put, nq1, nq2, nq3, nq4, nq5, nq6])
    refine wpT_callF rfl rfl rfl en17_pg0 rfl (addP _ (by first | assumption | exact PtN.v ‹_›) (by first | assumption | exact PtN.v ‹_›)) ?_; rintro e wy ⟨z13, hz13, rfl, hb⟩; refine ⟨_, rfl, hb, ?_⟩; have HS := hide (HS.out.call hb); (try simp only [Act.put, nq1, nq2, nq3, nq4, nq5, nq6])
    refine wpT_callF rfl rfl rfl en17_pg0 rfl (addP _ (by first | assumption | exact PtN.v ‹_›) (by first | assumption | exact PtN.v ‹_›)) ?_; rintro e wy ⟨z14, hz14, rfl, hb⟩; refine ⟨_, rfl, hb, ?_⟩; have HS := hide (HS.out.call hb); (try simp only [Act.put, nq1, nq2, nq3, nq4, nq5, nq6])
    refine wpT_callF rfl rfl rfl en17_pg0 rfl (addP _ (by first | assumption | exact PtN.v ‹_›) (by first | assumption | exact PtN.v ‹_›)) ?_; rintro e wy ⟨z15, hz15, rfl, hb⟩; refine ⟨_, rfl, hb, ?_⟩; have HS := hide (HS.out.call hb); (try simp only [Act.put, nq1, nq2, nq3, nq4, nq5, nq6])
    refine wpT_callF rfl rfl rfl en17_pg0 rfl (addP _ (by first | assumption | exact PtN.v ‹_›) (by first | assumption | exact PtN.v ‹_›)) ?_; rintro e wy ⟨z16, hz16, rfl, hb⟩; refine ⟨_, rfl, hb, ?_⟩; have HS := hide (HS.out.call hb); (try simp only [Act.put, nq1, nq2, nq3, nq4, nq5, nq6])
    refine wpT_callF rfl rfl rfl en21_pg0 rfl (sameP _ (by first | assumption | exact PtN.v ‹_›) (by first | assumption | exact PtN.v ‹_›)) ?_; rintro e wy ⟨rfl, hb⟩; rw [dec_t (ed_assoc _ _ _)]; refine ⟨_, rfl, hb, ?_⟩; have HS := hide (HS.out.call hb); (try simp only [Act.put, nq1, nq2, nq3, nq4, nq5, nq6])
    (refine wpT_pure (v := ?_) rfl rfl ?_ ?_; rotate_left; (intro wx; go_simp; try go_bits) <;> (with_reducible rfl)); (try simp only [Act.put, nq1, nq2, nq3, nq4, nq5, nq6])
    (refine wpT_pure (v := ?_) rfl rfl ?_ ?_; rotate_left; (intro wx; go_simp; try go_bits) <;> (with_reducible rfl)); (try simp only [Act.put, nq1, nq2, nq3, nq4, nq5, nq6])
    (refine wpT_pure (v := ?_) rfl rfl ?_ ?_; rotate_left; (intro wx; go_simp; try go_bits) <;> (with_reducible rfl)); (try simp only [Act.put, nq1, nq2, nq3, nq4, nq5, nq6])
    refine wpT_loadP rfl rfl rfl rfl HS.out (.tail _ (.tail _ (.head _))) rowP (.all (by first | exact arr_zP | exact PtN.arr ‹_› | exact PtV.arr ‹_› | exact qE ‹_› ‹_› ‹_› ‹_›)) ?_; (try simp only [Act.put, nq1, nq2, nq3, nq4, nq5, nq6])
    refine wpT_loadP rfl rfl rfl rfl HS.out (.tail _ (.tail _ (.head _))) rowP (.all (by first | exact arr_zP | exact PtN.arr ‹_› | exact PtV.arr ‹_› | exact qE ‹_› ‹_› ‹_› ‹_›)) ?_; (try simp only [Act.put, nq1, nq2, nq3, nq4, nq5, nq6])
    refine wpT_callF rfl rfl rfl en19_pg0 rfl (negP _ (by first | assumption | exact PtN.v ‹_›)) ?_; rintro e wy ⟨z18, hz18, rfl, hb⟩; refine ⟨_, rfl, hb, ?_⟩; have HS := hide (HS.out.call hb); (try simp only [Act.put, nq1, nq2, nq3, nq4, nq5, nq6])
    refine wpT_callF rfl rfl rfl en17_pg0 rfl (addP _ (by first | assumption | exact PtN.v ‹_›) (by first | assumption | exact PtN.v ‹_›)) ?_; rintro e wy ⟨z19, hz19, rfl, hb⟩; refine ⟨_, rfl, hb, ?_⟩; have HS := hide (HS.out.call hb); (try simp only [Act.put, nq1, nq2, nq3, nq4, nq5, nq6])
    refine wpT_callF rfl rfl rfl en23_pg0 rfl (zeroP _) ?_; rintro e wy ⟨z20, hz20, rfl, hb⟩; refine ⟨_, rfl, hb, ?_⟩; have HS := hide (HS.out.call hb); (try simp only [Act.put, nq1, nq2, nq3, nq4, nq5, nq6])
    refine wpT_callF rfl rfl rfl en21_pg0 rfl (sameP _ (by first | assumption | exact PtN.v ‹_›) (by first | assumption | exact PtN.v ‹_›)) ?_; rintro e wy ⟨rfl, hb⟩; rw [dec_t (ed_neg _)]; refine ⟨_, rfl, hb, ?_⟩; have HS := hide (HS.out.call hb); (try simp only [Act.put, nq1, nq2, nq3, nq4, nq5, nq6])
    (refine wpT_pure (v := ?_) rfl rfl ?_ ?_; rotate_left; (intro wx; go_simp; try go_bits) <;> (with_reducible rfl)); (try simp only [Act.put, nq1, nq2, nq3, nq4, nq5, nq6])
    (refine wpT_pure (v := ?_) rfl rfl ?_ ?_; rotate_left; (intro wx; go_simp; try go_bits) <;> (with_reducible rfl)); (try simp only [Act.put, nq1, nq2, nq3, nq4, nq5, nq6])
    (refine wpT_pure (v := ?_) rfl rfl ?_ ?_; rotate_left; (intro wx; go_simp; try go_bits) <;> (with_reducible rfl)); (try simp only [Act.put, nq1, nq2, nq3, nq4, nq5, nq6])
    refine wpT_loadP rfl rfl rfl rfl HS.out (.tail _ (.tail _ (.head _))) rowP (.all (by first | exact arr_zP | exact PtN.arr ‹_› | exact PtV.arr ‹_› | exact qE ‹_› ‹_› ‹_› ‹_›)) ?_; (try simp only [Act.put, nq1, nq2, nq3, nq4, nq5, nq6])
    refine wpT_loadP rfl rfl rfl rfl HS.out (.tail _ (.tail _ (.head _))) rowP (.all (by first | exact arr_zP | exact PtN.arr ‹_› | exact PtV.arr ‹_› | exact qE ‹_› ‹_› ‹_› ‹_›)) ?_; (try simp only [Act.put, nq1, nq2, nq3, nq4, nq5, nq6])
    refine wpT_callF rfl rfl rfl en23_pg0 rfl (zeroP _) ?_; rintro e wy ⟨z22, hz22, rfl, hb⟩; refine ⟨_, rfl, hb, ?_⟩; have HS := hide (HS.out.call hb); (try simp only [Act.put, nq1, nq2, nq3, nq4, nq5, nq6])
    refine wpT_callF rfl rfl rfl en17_pg0 rfl (addP _ (by first | assumption | exact PtN.v ‹_›) (by first | assumption | exact PtN.v ‹_›)) ?_; rintro e wy ⟨z23, hz23, rfl, hb⟩; refine ⟨_, rfl, hb, ?_⟩; have HS := hide (HS.out.call hb); (try simp only [Act.put, nq1, nq2, nq3, nq4, nq5, nq6])
    refine wpT_callF rfl rfl rfl en21_pg0 rfl (sameP _ (by first | assumption | exact PtN.v ‹_›) (by first | assumption | exact PtN.v ‹_›)) ?_; rintro e wy ⟨rfl, hb⟩; rw [dec_t (ed_zero _)]; refine ⟨_, rfl, hb, ?_⟩; have HS := hide (HS.out.call hb); (try simp only [Act.put, nq1, nq2, nq3, nq4, nq5, nq6])
    (refine wpT_pure (v := ?_) rfl rfl ?_ ?_; rotate_left; (intro wx; go_simp; try go_bits) <;> (with_reducible rfl)); (try simp only [Act.put, nq1, nq2, nq3, nq4, nq5, nq6])
    (refine wpT_pure (v := ?_) rfl rfl ?_ ?_; rotate_left; (intro wx; go_simp; try go_bits) <;> (with_reducible rfl)); (try simp only [Act.put, nq1, nq2, nq3, nq4, nq5, nq6])
    refine wpT_nil ?_
    have M15 := True.intro
    go_upto_region 9 with (first | (clear M20; go_at_call 21; (with_reducible refine (sameP _ (by first | assumption | exact PtN.v ‹_›) (by first | assumption | exact PtN.v ‹_›)).mono ?_); rintro e wy ⟨rfl, hb⟩; rw [dec_t (by rw [← tmE_add, HV0.out, HV1.out, HVS.out])]; have HS := hide (HS.out.call hb); have M21 := True.intro) | (clear M19; go_at_call 11; (with_reducible refine (mulP_any _ _ _ (s3L (mA + mB)) _ (by first | assumption | exact PtN.v ‹_›) (s3_len _) (by omega) (by rw [← HBV.out]; exact rd_new _ [_, _, _] 5 1 3 rfl (by decide))).mono ?_); rintro e wy ⟨z27, hz27, rfl, hb⟩; have HS := hide ((HS.out.skip _).call hb); have M20 := True.intro) | (clear M18; go_at_call 10; (with_reducible refine (baseP _).mono ?_); rintro e wy ⟨z26, hz26, rfl, hb⟩; have HS := hide (HS.out.call hb); have M19 := True.intro) | (clear M17; go_at_call 17; (with_reducible refine (addP _ (by first | assumption | exact PtN.v ‹_›) (by first | assumption | exact PtN.v ‹_›)).mono ?_); rintro e wy ⟨z25, hz25, rfl, hb⟩; have HS := hide (HS.out.call hb); have M18 := True.intro) | (clear M16; refine wl_loadG rfl rfl rfl HS.out (.tail _ (.head _)) rowP (.all (by first | exact arr_zP | exact PtN.arr ‹_› | exact PtV.arr ‹_› | exact qE ‹_› ‹_› ‹_› ‹_›)) ?_; (try simp only [Act.put, nq1, nq2, nq3, nq4, nq5, nq6]); have M17 := True.intro) | (clear M15; refine wl_loadG rfl rfl rfl HS.out (.tail _ (.tail _ (.head _))) rowP (.all (by first | exact arr_zP | exact PtN.arr ‹_› | exact PtV.arr ‹_› | exact qE ‹_› ‹_› ‹_› ‹_›)) ?_; (try simp only [Act.put, nq1, nq2, nq3, nq4, nq5, nq6]); have M16 := True.intro))
    have hcv := Go.Joins.run_convert_bytes_const_at (P := Tryd.prog) wy 22 5 #[.int .u8 237, .int .u8 211, .int .u8 245, .int .u8 92, .int .u8 26, .int .u8 99, .int .u8 18, .int .u8 88, .int .u8 214, .int .u8 156, .int .u8 247, .int .u8 162, .int .u8 222, .int .u8 249, .int .u8 222, .int .u8 20] 16 16 wy.heap.size rfl Tryd.underlying22 Tryd.underlying5
    have R0 := rd_mark wy (bvs l0L) 5 (16, 17) 16 l0_len (by decide)
    rw [l0_arr] at R0
    have HR0 := hide R0
    clear R0
    go_upto_region 10 with (at_builtin; refine wl_appendZnew (k := 16) (l := l0L) (n := 16) (c := 16) rfl rfl Tryd.underlying22 Tryd.underlying3 infoB (HS.out.skip _) rfl HR0.out rfl rfl (by omega) (by omega) (by omega) (by omega) ?_; intro A2 cl w2 hS2 hb2; have HS := hide hS2; clear hS2 hb2)
    clear hcv
    obtain ⟨gl, c1', hv, hc1, hcm, hcs, hfr, _⟩ := HS.out.rowOpen 0 rfl (by omega)
    injection hv with hv1 _ hv3
    subst hv1 hv3
    have kl31 := hcs 31 _ (bvs_get (show (l0L ++ List.replicate 16 0)[31]? = some 0 from rfl))
    have fl31 := hfr 31
    clear hcs hfr hc1 hcm
    go_upto_region 11 with fail
    have h3 := HS.out.rowSet 0 rfl 31 (.int .u8 (16 : Nat)) (by omega)
    rw [List.set_cons_zero, bvs_set _ _ _ (by omega), l0_set] at h3
    change St w NoB (w2.setCell ⟨gl, 31, none⟩ (.int .u8 16)) _ at h3
    have HS := hide h3
    clear h3 fl31 kl31
    have M21 := True.intro
    go_wp2_with (first | (clear M25; go_at_call 9; (with_reducible refine (awake4_any _).mono ?_); rintro e wy ⟨rfl, hb⟩; have HS := hide (HS.out.call hb); have M26 := True.intro) | (clear M24; go_at_call 21; (with_reducible refine (sameP _ (by first | assumption | exact PtN.v ‹_›) (by first | assumption | exact PtN.v ‹_›)).mono ?_); rintro e wy ⟨rfl, hb⟩; rw [dec_t l_mul]; have HS := hide (HS.out.call hb); have M25 := True.intro) | (clear M23; go_at_call 23; (with_reducible refine (zeroP _).mono ?_); rintro e wy ⟨z31, hz31, rfl, hb⟩; have HS := hide (HS.out.call hb); have M24 := True.intro) | (clear M22; go_at_call 11; (with_reducible refine (mulP_any _ _ _ _ _ (by first | assumption | exact PtN.v ‹_›) lL_len (by omega) (HS.out.rd 0 rfl)).mono ?_); rintro e wy ⟨z30, hz30, rfl, hb⟩; have HS := hide (HS.out.call hb); have M23 := True.intro) | (clear M21; go_at_call 10; (with_reducible refine (baseP _).mono ?_); rintro e wy ⟨z29, hz29, rfl, hb⟩; have HS := hide (HS.out.call hb); have M22 := True.intro))
    go_ret
    exact ⟨rfl, HS.out.below⟩
end Go.Proofs.YtgahjjdbpjgemaaDoor

/-
  The statement 'PointGroup': its arguments opened; the row; the card.
-/
namespace Go.Proofs.YtgahjjdbpjgemaaDoor
open Go.ChangeShapes Go.WideShapes Go.ChangeAt Go.RowKit

set_option maxRecDepth 100000 in
theorem pointGroup_lifted (os : Os) (started : os.Started) (H : Type) (enc : TypeId × Value → H) :
    ReturnsInHanded {} Tryd.checked os 4 .any (fun w args => (Rows.pointGroupSpec.pre enc Tryd.prog Tryd.f4 [] false w args ∧ laidMetH Tryd.prog LL w) ∧ sizedMet enc Tryd.prog Tryd.f4 (OpenSpec.ofChange Rows.pointGroupSpec) false w args) (Rows.pointGroupSpec.post enc Tryd.prog Tryd.f4 false true false false) := by
  refine lift_laid (C := Tryd.checked) own started (by kernel_rfl) Tryd.func4 rfl rfl (tb := 4) (by kernel_rfl) Tryd.underlying4 laidOut (by kernel_rfl) (l := LL) ?_
    (ChangeSpec.witness_shaped (enc := enc) (C := Tryd.checked) (os := os) (X := fun w _ => laidMetH Tryd.prog LL w) false (World.doorLaid Tryd.prog 400 os) #[.int .i64 0, .int .i64 0, .int .i64 0, .bool false] 8 rfl (World.shaped_of_RefB (by kernel_rfl) (by kernel_rfl)) (by kernel_rfl) (by kernel_rfl) (by kernel_rfl) (door_met os _)) ?_
  · intro ds hds
    rw [Tryd.params4] at hds
    match ds, hds with
    | [d0, d1, d2, d3], _ => exact ⟨rfl, rfl, rfl⟩
  · intro W args ds p hT hL
    obtain ⟨hA, ⟨base, hok⟩, hsz⟩ := hT
    rw [Tryd.params4] at hA hok hsz
    obtain ⟨v0, v1, v2, v3, d0, d1, d2, d3, p0, p1, p2, p3, rfl, rfl, rfl, h0, h1, h2, h3⟩ := trodAll_four hA
    obtain ⟨n0, rfl, rfl, rfl, w0⟩ := open_int Tryd.underlying3 (hok 0 3 v0 rfl rfl) h0
    obtain ⟨n1, rfl, rfl, rfl, w1⟩ := open_int Tryd.underlying3 (hok 1 3 v1 rfl rfl) h1
    obtain ⟨n2, rfl, rfl, rfl, w2⟩ := open_int Tryd.underlying3 (hok 2 3 v2 rfl rfl) h2
    obtain ⟨b3, rfl, rfl, rfl⟩ := open_bool Tryd.underlying4 (hok 3 4 v3 rfl rfl) h3
    exact pointGroup_walk n0 n1 n2 b3 W (i64_of w0) (i64_of w1) (i64_of w2)

theorem pointGroup_over : Rows.pointGroupRow.holds Tryd.pinned (OpenSpec.ofChange Rows.pointGroupSpec) :=
  OpenClaim.holds_of_wide 4 Tryd.f4 rfl rfl rfl rfl rfl rfl rfl ⟨rfl, rfl, rfl, rfl, rfl⟩ rfl rfl rfl rfl rfl (by kernel_rfl) Tryd.func4 (by kernel_rfl)
    (of_decide_eq_true (by kernel_rfl)) (by unfold Func.isWrapper; first | (rw [if_pos (by decide +kernel)]; kernel_rfl) | (rw [if_neg (by decide +kernel)]; exact ⟨rfl, rfl⟩))
    (fun os started H enc _ => pointGroup_lifted os started H enc)

/-- The card. -/
theorem pointGroup_proved : Rows.PointGroupCardSaid :=
  Claim7.holds_tied_plain_at .later [] [.data, .data, .data, .sentinel, .sentinel] true (true, "c9b40510c079d1e14051804e9f3aa55b2e8148c7fdf3450800e1e5f47c4ae7be") true
    pointGroup_over (fun _ h => by cases h) (by kernel_rfl) (fun _ h => by cases h) pointGroup_row_tie rfl ⟨rfl, rfl⟩ (by kernel_rfl) rfl
    (fun f fn hf hfn => by
      obtain rfl : f = 4 := Option.some.inj ((show Tryd.prog.funcNamed "viaticum/viaticumlaw4.PointGroup" = some 4 by kernel_rfl).symm.trans hf) |>.symm
      obtain rfl : fn = Tryd.f4 := (Option.some.inj (Tryd.func4.symm.trans hfn)).symm
      exact ⟨by kernel_rfl, fun j t ht => by
        rw [Tryd.params4] at ht
        have hm : t ∈ ([3, 3, 3, 4] : List TypeId) := by
          have := Array.mem_of_getElem? ht
          simpa using this
        have hall : (([3, 3, 3, 4] : List TypeId).all fun u => !Tryd.prog.wantsStandIn u) = true := by kernel_rfl
        have := List.all_eq_true.1 hall t hm
        exact (show Tryd.prog.wantsStandIn t = false by simpa using this)⟩)
    (by kernel_rfl)
#print axioms pointGroup_proved
end Go.Proofs.YtgahjjdbpjgemaaDoor
