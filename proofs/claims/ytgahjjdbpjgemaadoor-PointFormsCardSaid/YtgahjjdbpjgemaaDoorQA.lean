/-
  Joined of texts of mine, in build order: Bz, CA. Each says what it proves at its own head.
-/
import Derived.Test.YtgahjjdbpjgemaaDoorCards
import Derived.Test.YtgahjjdbpjgemaaDoorTie
import Derived.SevenTiedAt
import Derived.Test.YtgahjjdbpjgemaaDoorPh

/-
  Layer 4: the walk of PointForms.
-/
namespace Go.Proofs.YtgahjjdbpjgemaaDoor
open Go.RowKit
set_option linter.unusedSimpArgs false
theorem en15_pf (args : Array Value) (w : World) : (callFunc 15 args).run Tryd.prog w = .ok (.enter 15 args) w := by kernel_rfl
theorem en16_pf (args : Array Value) (w : World) : (callFunc 16 args).run Tryd.prog w = .ok (.enter 16 args) w := by kernel_rfl
theorem en17_pf (args : Array Value) (w : World) : (callFunc 17 args).run Tryd.prog w = .ok (.enter 17 args) w := by kernel_rfl
theorem en18_pf (args : Array Value) (w : World) : (callFunc 18 args).run Tryd.prog w = .ok (.enter 18 args) w := by kernel_rfl
theorem en19_pf (args : Array Value) (w : World) : (callFunc 19 args).run Tryd.prog w = .ok (.enter 19 args) w := by kernel_rfl
theorem en20_pf (args : Array Value) (w : World) : (callFunc 20 args).run Tryd.prog w = .ok (.enter 20 args) w := by kernel_rfl
theorem en21_pf (args : Array Value) (w : World) : (callFunc 21 args).run Tryd.prog w = .ok (.enter 21 args) w := by kernel_rfl
theorem en22_pf (args : Array Value) (w : World) : (callFunc 22 args).run Tryd.prog w = .ok (.enter 22 args) w := by kernel_rfl
theorem en9_pf (args : Array Value) (w : World) : (callFunc 9 args).run Tryd.prog w = .ok (.enter 9 args) w := by kernel_rfl
set_option maxRecDepth 100000 in
set_option maxHeartbeats 6400000 in
theorem pointForms_walk (n m : Int) (A : Option Addr) (k c : Nat) (l : List UInt8) (w : World) (hn : I64 n) (hl : l.length = k) (hr : Rd w (.slice A k c) 1 k (bvs l)) :
    Calls Tryd.prog 3 #[.int .i64 n, .int .i64 m, .slice A k c] w fun e w' => e = .returned (.bool true) ∧ Below w.heap.size w w' := by
  have HS := hide (St.init w NoB)
  have HR := hide hr
  have HL := hide hl
  clear hr hl
  by_cases hk : k ≤ 40
  · have dk : decide ((40 : Int) < (k : Int)) = false := by simp; omega
    have dk2 : decide (40 < k) = false := by simp; omega
    go_enter Tryd.func3, Tryd.ntmps3
    have M0 := True.intro
    go_wp2_with (first | (clear M17; refine wl_storeR rfl rfl rfl rfl HS.out rowQ (.head) (by first | exact arr_zQ | exact QtN.arr ‹_› | exact qN ‹_› ‹_› ‹_› ‹_›) (by first | exact arr_zQ | exact QtN.arr ‹_› | exact qN ‹_› ‹_› ‹_› ‹_›) ?_; intro wz hS9; have HS := hide hS9; clear hS9; (try simp only [Act.put, nq1, nq2, nq3, nq4, nq5, nq6]); have M18 := True.intro) | (clear M16; refine wl_storeR rfl rfl rfl rfl HS.out rowQ (.tail (.head)) (by first | exact arr_zQ | exact QtN.arr ‹_› | exact qN ‹_› ‹_› ‹_› ‹_›) (by first | exact arr_zQ | exact QtN.arr ‹_› | exact qN ‹_› ‹_› ‹_› ‹_›) ?_; intro wz hS9; have HS := hide hS9; clear hS9; (try simp only [Act.put, nq1, nq2, nq3, nq4, nq5, nq6]); have M17 := True.intro) | (clear M15; refine wl_allocR rfl rfl HS.out newQ ?_; intro g10 wz hS9; have HS := hide hS9; clear hS9; (try simp only [Act.put, nq1, nq2, nq3, nq4, nq5, nq6]); have M16 := True.intro) | (clear M14; refine wl_allocR rfl rfl HS.out newQ ?_; intro g9 wz hS9; have HS := hide hS9; clear hS9; (try simp only [Act.put, nq1, nq2, nq3, nq4, nq5, nq6]); have M15 := True.intro) | (clear M13; go_at_call 13; (with_reducible refine (timesQ _ _ _ _ _ ‹_› HL.out (by omega) (HR.out.below HS.out.below)).mono ?_); rintro e wy ⟨z10, hz10, rfl, hb⟩; have HS := hide (HS.out.call hb); have M14 := True.intro) | (clear M12; go_at_call 14; (with_reducible refine (baseQ _).mono ?_); rintro e wy ⟨z9, hz9, rfl, hb⟩; have HS := hide (HS.out.call hb); have M13 := True.intro) | (clear M11; go_at_call 13; (with_reducible refine (timesQ _ _ _ _ _ ‹_› (smL_len _) (by omega) hrs7).mono ?_); rintro e wy ⟨z8, hz8, rfl, hb⟩; have HS := hide (HS.out.call hb); have M12 := True.intro) | (clear M10; go_at_call 12; (with_reducible refine (small_any _ _ (by assumption)).mono ?_); rintro e wy ⟨gs7, rfl, hb, hrs7⟩; have HS := hide (HS.out.call hb); have M11 := True.intro) | (clear M9; go_at_call 14; (with_reducible refine (baseQ _).mono ?_); rintro e wy ⟨z6, hz6, rfl, hb⟩; have HS := hide (HS.out.call hb); have M10 := True.intro) | (clear M8; refine wl_storeR rfl rfl rfl rfl HS.out rowP (.head) (by first | exact arr_zP | exact PtN.arr ‹_› | exact PtV.arr ‹_› | exact qE ‹_› ‹_› ‹_› ‹_›) (by first | exact arr_zP | exact PtN.arr ‹_› | exact PtV.arr ‹_› | exact qE ‹_› ‹_› ‹_› ‹_›) ?_; intro wz hS9; have HS := hide hS9; clear hS9; (try simp only [Act.put, nq1, nq2, nq3, nq4, nq5, nq6]); have M9 := True.intro) | (clear M7; refine wl_storeR rfl rfl rfl rfl HS.out rowP (.tail (.head)) (by first | exact arr_zP | exact PtN.arr ‹_› | exact PtV.arr ‹_› | exact qE ‹_› ‹_› ‹_› ‹_›) (by first | exact arr_zP | exact PtN.arr ‹_› | exact PtV.arr ‹_› | exact qE ‹_› ‹_› ‹_› ‹_›) ?_; intro wz hS9; have HS := hide hS9; clear hS9; (try simp only [Act.put, nq1, nq2, nq3, nq4, nq5, nq6]); have M8 := True.intro) | (clear M6; refine wl_allocR rfl rfl HS.out newP ?_; intro g8 wz hS9; have HS := hide hS9; clear hS9; (try simp only [Act.put, nq1, nq2, nq3, nq4, nq5, nq6]); have M7 := True.intro) | (clear M5; refine wl_allocR rfl rfl HS.out newP ?_; intro g7 wz hS9; have HS := hide hS9; clear hS9; (try simp only [Act.put, nq1, nq2, nq3, nq4, nq5, nq6]); have M6 := True.intro) | (clear M4; go_at_call 11; (with_reducible refine (mulP_any _ _ _ _ _ (by first | assumption | exact PtN.v ‹_›) HL.out (by omega) (HR.out.below HS.out.below)).mono ?_); rintro e wy ⟨z5, hz5, rfl, hb⟩; have HS := hide (HS.out.call hb); have M5 := True.intro) | (clear M3; go_at_call 10; (with_reducible refine (baseP _).mono ?_); rintro e wy ⟨z4, hz4, rfl, hb⟩; have HS := hide (HS.out.call hb); have M4 := True.intro) | (clear M2; go_at_call 11; (with_reducible refine (mulP_any _ _ _ _ _ (by first | assumption | exact PtN.v ‹_›) (smL_len _) (by omega) hrs2).mono ?_); rintro e wy ⟨z3, hz3, rfl, hb⟩; have HS := hide (HS.out.call hb); have M3 := True.intro) | (clear M1; go_at_call 12; (with_reducible refine (small_any _ _ (by assumption)).mono ?_); rintro e wy ⟨gs2, rfl, hb, hrs2⟩; have HS := hide (HS.out.call hb); have M2 := True.intro) | (clear M0; go_at_call 10; (with_reducible refine (baseP _).mono ?_); rintro e wy ⟨z1, hz1, rfl, hb⟩; have HS := hide (HS.out.call hb); have M1 := True.intro))
    have HS := hide HS.out.drew
    refine wp_region_T [(0, 0), (3, 0), (1, 2), (2, 0), (4, 2), (5, 0), (6, 1), (7, 1), (8, 0), (11, 0), (9, 2), (10, 0), (12, 2), (13, 0), (14, 1), (15, 1), (16, 1), (17, 0), (18, 0), (22, 0), (23, 0), (19, 2), (20, 2), (21, 0), (24, 2), (25, 2), (26, 0), (27, 1), (28, 1), (29, 1), (30, 0), (34, 0), (31, 2), (32, 2), (33, 0), (35, 2), (36, 2), (37, 0), (38, 1), (39, 1), (40, 1), (41, 0), (42, 0), (44, 0), (45, 0), (43, 2), (46, 2), (47, 1), (48, 1), (49, 1), (50, 2), (51, 1), (52, 1)] (by kernel_rfl) (by kernel_rfl) (fun _ _ _ _ h => h) ?_
    refine wpT_loadP rfl rfl rfl rfl HS.out (.tail _ (.tail _ (.tail _ (.head _)))) rowP (.all (by first | exact arr_zP | exact PtN.arr ‹_› | exact PtV.arr ‹_› | exact qE ‹_› ‹_› ‹_› ‹_›)) ?_; (try simp only [Act.put, nq1, nq2, nq3, nq4, nq5, nq6])
    refine wpT_loadP rfl rfl rfl rfl HS.out (.tail _ (.head _)) rowQ (.all (by first | exact arr_zQ | exact QtN.arr ‹_› | exact qN ‹_› ‹_› ‹_› ‹_›)) ?_; (try simp only [Act.put, nq1, nq2, nq3, nq4, nq5, nq6])
    refine wpT_callF rfl rfl rfl en15_pf rfl (bytesP32 _ (by first | assumption | exact PtN.v ‹_›)) ?_; rintro e wy ⟨B11, d11, rfl, hb, ho⟩; refine ⟨_, rfl, hb, ?_⟩; have HS := hide (HS.out.row hb ho); have cv11 := fun x (hx : From wy x) => run_str (P := Tryd.prog) Tryd.underlying22 Tryd.underlying5 Tryd.underlying9 ((HS.out.rd 0 rfl).below hx); clear ho; (try simp only [Act.put, nq1, nq2, nq3, nq4, nq5, nq6])
    (refine wpT_read (v := ?_) rfl rfl ?_ ?_; rotate_left; (intro wx hx; go_simp; try go_bits) <;> (with_reducible rfl)); (try simp only [Act.put, nq1, nq2, nq3, nq4, nq5, nq6])
    refine wpT_callF rfl rfl rfl en16_pf rfl (packQ32 _ ‹_›) ?_; rintro e wy ⟨B12, d12, rfl, hb, ho⟩; refine ⟨_, rfl, hb, ?_⟩; have HS := hide (HS.out.row hb ho); have cv12 := fun x (hx : From wy x) => run_str (P := Tryd.prog) Tryd.underlying22 Tryd.underlying5 Tryd.underlying9 ((HS.out.rd 0 rfl).below hx); clear ho; (try simp only [Act.put, nq1, nq2, nq3, nq4, nq5, nq6])
    (refine wpT_read (v := ?_) rfl rfl ?_ ?_; rotate_left; (intro wx hx; go_simp; try go_bits) <;> (with_reducible rfl)); (try simp only [Act.put, nq1, nq2, nq3, nq4, nq5, nq6])
    (refine wpT_pure (v := ?_) rfl rfl ?_ ?_; rotate_left; (intro wx; go_simp; try go_bits) <;> (with_reducible rfl)); (try simp only [Act.put, nq1, nq2, nq3, nq4, nq5, nq6])
    (refine wpT_pure (v := ?_) rfl rfl ?_ ?_; rotate_left; (intro wx; go_simp; try go_bits) <;> (with_reducible rfl)); (try simp only [Act.put, nq1, nq2, nq3, nq4, nq5, nq6])
    refine wpT_loadP rfl rfl rfl rfl HS.out (.tail _ (.tail _ (.tail _ (.tail _ (.head _))))) rowP (.all (by first | exact arr_zP | exact PtN.arr ‹_› | exact PtV.arr ‹_› | exact qE ‹_› ‹_› ‹_› ‹_›)) ?_; (try simp only [Act.put, nq1, nq2, nq3, nq4, nq5, nq6])
    refine wpT_loadP rfl rfl rfl rfl HS.out (.tail _ (.tail _ (.head _))) rowQ (.all (by first | exact arr_zQ | exact QtN.arr ‹_› | exact qN ‹_› ‹_› ‹_› ‹_›)) ?_; (try simp only [Act.put, nq1, nq2, nq3, nq4, nq5, nq6])
    refine wpT_callF rfl rfl rfl en15_pf rfl (bytesP32 _ (by first | assumption | exact PtN.v ‹_›)) ?_; rintro e wy ⟨B13, d13, rfl, hb, ho⟩; refine ⟨_, rfl, hb, ?_⟩; have HS := hide (HS.out.row hb ho); have cv13 := fun x (hx : From wy x) => run_str (P := Tryd.prog) Tryd.underlying22 Tryd.underlying5 Tryd.underlying9 ((HS.out.rd 0 rfl).below hx); clear ho; (try simp only [Act.put, nq1, nq2, nq3, nq4, nq5, nq6])
    (refine wpT_read (v := ?_) rfl rfl ?_ ?_; rotate_left; (intro wx hx; go_simp; try go_bits) <;> (with_reducible rfl)); (try simp only [Act.put, nq1, nq2, nq3, nq4, nq5, nq6])
    refine wpT_callF rfl rfl rfl en16_pf rfl (packQ32 _ ‹_›) ?_; rintro e wy ⟨B14, d14, rfl, hb, ho⟩; refine ⟨_, rfl, hb, ?_⟩; have HS := hide (HS.out.row hb ho); have cv14 := fun x (hx : From wy x) => run_str (P := Tryd.prog) Tryd.underlying22 Tryd.underlying5 Tryd.underlying9 ((HS.out.rd 0 rfl).below hx); clear ho; (try simp only [Act.put, nq1, nq2, nq3, nq4, nq5, nq6])
    (refine wpT_read (v := ?_) rfl rfl ?_ ?_; rotate_left; (intro wx hx; go_simp; try go_bits) <;> (with_reducible rfl)); (try simp only [Act.put, nq1, nq2, nq3, nq4, nq5, nq6])
    (refine wpT_pure (v := ?_) rfl rfl ?_ ?_; rotate_left; (intro wx; go_simp; try go_bits) <;> (with_reducible rfl)); (try simp only [Act.put, nq1, nq2, nq3, nq4, nq5, nq6])
    (refine wpT_pure (v := ?_) rfl rfl ?_ ?_; rotate_left; (intro wx; go_simp; try go_bits) <;> (with_reducible rfl)); (try simp only [Act.put, nq1, nq2, nq3, nq4, nq5, nq6])
    (refine wpT_pure (v := ?_) rfl rfl ?_ ?_; rotate_left; (intro wx; go_simp; try go_bits) <;> (with_reducible rfl)); (try simp only [Act.put, nq1, nq2, nq3, nq4, nq5, nq6])
    refine wpT_loadP rfl rfl rfl rfl HS.out (.tail _ (.tail _ (.tail _ (.tail _ (.tail _ (.tail _ (.tail _ (.head _)))))))) rowP (.all (by first | exact arr_zP | exact PtN.arr ‹_› | exact PtV.arr ‹_› | exact qE ‹_› ‹_› ‹_› ‹_›)) ?_; (try simp only [Act.put, nq1, nq2, nq3, nq4, nq5, nq6])
    refine wpT_loadP rfl rfl rfl rfl HS.out (.tail _ (.tail _ (.tail _ (.tail _ (.tail _ (.tail _ (.head _))))))) rowP (.all (by first | exact arr_zP | exact PtN.arr ‹_› | exact PtV.arr ‹_› | exact qE ‹_› ‹_› ‹_› ‹_›)) ?_; (try simp only [Act.put, nq1, nq2, nq3, nq4, nq5, nq6])
    refine wpT_loadP rfl rfl rfl rfl HS.out (.tail _ (.tail _ (.tail _ (.tail _ (.tail _ (.head _)))))) rowQ (.all (by first | exact arr_zQ | exact QtN.arr ‹_› | exact qN ‹_› ‹_› ‹_› ‹_›)) ?_; (try simp only [Act.put, nq1, nq2, nq3, nq4, nq5, nq6])
    refine wpT_loadP rfl rfl rfl rfl HS.out (.tail _ (.tail _ (.tail _ (.tail _ (.head _))))) rowQ (.all (by first | exact arr_zQ | exact QtN.arr ‹_› | exact qN ‹_› ‹_› ‹_› ‹_›)) ?_; (try simp only [Act.put, nq1, nq2, nq3, nq4, nq5, nq6])
    refine wpT_callF rfl rfl rfl en17_pf rfl (addP _ (by first | assumption | exact PtN.v ‹_›) (by first | assumption | exact PtN.v ‹_›)) ?_; rintro e wy ⟨z15, hz15, rfl, hb⟩; refine ⟨_, rfl, hb, ?_⟩; have HS := hide (HS.out.call hb); (try simp only [Act.put, nq1, nq2, nq3, nq4, nq5, nq6])
    refine wpT_callF rfl rfl rfl en15_pf rfl (bytesP32 _ (by first | assumption | exact PtN.v ‹_›)) ?_; rintro e wy ⟨B16, d16, rfl, hb, ho⟩; refine ⟨_, rfl, hb, ?_⟩; have HS := hide (HS.out.row hb ho); have cv16 := fun x (hx : From wy x) => run_str (P := Tryd.prog) Tryd.underlying22 Tryd.underlying5 Tryd.underlying9 ((HS.out.rd 0 rfl).below hx); clear ho; (try simp only [Act.put, nq1, nq2, nq3, nq4, nq5, nq6])
    (refine wpT_read (v := ?_) rfl rfl ?_ ?_; rotate_left; (intro wx hx; go_simp; try go_bits) <;> (with_reducible rfl)); (try simp only [Act.put, nq1, nq2, nq3, nq4, nq5, nq6])
    refine wpT_callF rfl rfl rfl en18_pf rfl (plusQ _ ‹_› ‹_›) ?_; rintro e wy ⟨z17, hz17, rfl, hb⟩; refine ⟨_, rfl, hb, ?_⟩; have HS := hide (HS.out.call hb); (try simp only [Act.put, nq1, nq2, nq3, nq4, nq5, nq6])
    refine wpT_callF rfl rfl rfl en16_pf rfl (packQ32 _ ‹_›) ?_; rintro e wy ⟨B18, d18, rfl, hb, ho⟩; refine ⟨_, rfl, hb, ?_⟩; have HS := hide (HS.out.row hb ho); have cv18 := fun x (hx : From wy x) => run_str (P := Tryd.prog) Tryd.underlying22 Tryd.underlying5 Tryd.underlying9 ((HS.out.rd 0 rfl).below hx); clear ho; (try simp only [Act.put, nq1, nq2, nq3, nq4, nq5, nq6])
    (refine wpT_read (v := ?_) rfl rfl ?_ ?_; rotate_left; (intro wx hx; go_simp; try go_bits) <;> (with_reducible rfl)); (try simp only [Act.put, nq1, nq2, nq3, nq4, nq5, nq6])
    (refine wpT_pure (v := ?_) rfl rfl ?_ ?_; rotate_left; (intro wx; go_simp; try go_bits) <;> (with_reducible rfl)); (try simp only [Act.put, nq1, nq2, nq3, nq4, nq5, nq6])
    (refine wpT_pure (v := ?_) rfl rfl ?_ ?_; rotate_left; (intro wx; go_simp; try go_bits) <;> (with_reducible rfl)); (try simp only [Act.put, nq1, nq2, nq3, nq4, nq5, nq6])
    (refine wpT_pure (v := ?_) rfl rfl ?_ ?_; rotate_left; (intro wx; go_simp; try go_bits) <;> (with_reducible rfl)); (try simp only [Act.put, nq1, nq2, nq3, nq4, nq5, nq6])
    refine wpT_loadP rfl rfl rfl rfl HS.out (.tail _ (.tail _ (.tail _ (.tail _ (.tail _ (.tail _ (.tail _ (.tail _ (.tail _ (.head _)))))))))) rowP (.all (by first | exact arr_zP | exact PtN.arr ‹_› | exact PtV.arr ‹_› | exact qE ‹_› ‹_› ‹_› ‹_›)) ?_; (try simp only [Act.put, nq1, nq2, nq3, nq4, nq5, nq6])
    refine wpT_loadP rfl rfl rfl rfl HS.out (.tail _ (.tail _ (.tail _ (.tail _ (.tail _ (.tail _ (.tail _ (.head _)))))))) rowQ (.all (by first | exact arr_zQ | exact QtN.arr ‹_› | exact qN ‹_› ‹_› ‹_› ‹_›)) ?_; (try simp only [Act.put, nq1, nq2, nq3, nq4, nq5, nq6])
    refine wpT_callF rfl rfl rfl en19_pf rfl (negP _ (by first | assumption | exact PtN.v ‹_›)) ?_; rintro e wy ⟨z19, hz19, rfl, hb⟩; refine ⟨_, rfl, hb, ?_⟩; have HS := hide (HS.out.call hb); (try simp only [Act.put, nq1, nq2, nq3, nq4, nq5, nq6])
    refine wpT_callF rfl rfl rfl en15_pf rfl (bytesP32 _ (by first | assumption | exact PtN.v ‹_›)) ?_; rintro e wy ⟨B20, d20, rfl, hb, ho⟩; refine ⟨_, rfl, hb, ?_⟩; have HS := hide (HS.out.row hb ho); have cv20 := fun x (hx : From wy x) => run_str (P := Tryd.prog) Tryd.underlying22 Tryd.underlying5 Tryd.underlying9 ((HS.out.rd 0 rfl).below hx); clear ho; (try simp only [Act.put, nq1, nq2, nq3, nq4, nq5, nq6])
    (refine wpT_read (v := ?_) rfl rfl ?_ ?_; rotate_left; (intro wx hx; go_simp; try go_bits) <;> (with_reducible rfl)); (try simp only [Act.put, nq1, nq2, nq3, nq4, nq5, nq6])
    refine wpT_callF rfl rfl rfl en20_pf rfl (negQ _ ‹_›) ?_; rintro e wy ⟨z21, hz21, rfl, hb⟩; refine ⟨_, rfl, hb, ?_⟩; have HS := hide (HS.out.call hb); (try simp only [Act.put, nq1, nq2, nq3, nq4, nq5, nq6])
    refine wpT_callF rfl rfl rfl en16_pf rfl (packQ32 _ ‹_›) ?_; rintro e wy ⟨B22, d22, rfl, hb, ho⟩; refine ⟨_, rfl, hb, ?_⟩; have HS := hide (HS.out.row hb ho); have cv22 := fun x (hx : From wy x) => run_str (P := Tryd.prog) Tryd.underlying22 Tryd.underlying5 Tryd.underlying9 ((HS.out.rd 0 rfl).below hx); clear ho; (try simp only [Act.put, nq1, nq2, nq3, nq4, nq5, nq6])
    (refine wpT_read (v := ?_) rfl rfl ?_ ?_; rotate_left; (intro wx hx; go_simp; try go_bits) <;> (with_reducible rfl)); (try simp only [Act.put, nq1, nq2, nq3, nq4, nq5, nq6])
    (refine wpT_pure (v := ?_) rfl rfl ?_ ?_; rotate_left; (intro wx; go_simp; try go_bits) <;> (with_reducible rfl)); (try simp only [Act.put, nq1, nq2, nq3, nq4, nq5, nq6])
    (refine wpT_pure (v := ?_) rfl rfl ?_ ?_; rotate_left; (intro wx; go_simp; try go_bits) <;> (with_reducible rfl)); (try simp only [Act.put, nq1, nq2, nq3, nq4, nq5, nq6])
    (refine wpT_pure (v := ?_) rfl rfl ?_ ?_; rotate_left; (intro wx; go_simp; try go_bits) <;> (with_reducible rfl)); (try simp only [Act.put, nq1, nq2, nq3, nq4, nq5, nq6])
    refine wpT_loadP rfl rfl rfl rfl HS.out (.tail _ (.tail _ (.tail _ (.tail _ (.tail _ (.tail _ (.tail _ (.tail _ (.tail _ (.tail _ (.tail _ (.head _)))))))))))) rowP (.all (by first | exact arr_zP | exact PtN.arr ‹_› | exact PtV.arr ‹_› | exact qE ‹_› ‹_› ‹_› ‹_›)) ?_; (try simp only [Act.put, nq1, nq2, nq3, nq4, nq5, nq6])
    refine wpT_loadP rfl rfl rfl rfl HS.out (.tail _ (.tail _ (.tail _ (.tail _ (.tail _ (.tail _ (.tail _ (.tail _ (.tail _ (.tail _ (.head _))))))))))) rowP (.all (by first | exact arr_zP | exact PtN.arr ‹_› | exact PtV.arr ‹_› | exact qE ‹_› ‹_› ‹_› ‹_›)) ?_; (try simp only [Act.put, nq1, nq2, nq3, nq4, nq5, nq6])
    refine wpT_loadP rfl rfl rfl rfl HS.out (.tail _ (.tail _ (.tail _ (.tail _ (.tail _ (.tail _ (.tail _ (.tail _ (.tail _ (.head _)))))))))) rowQ (.all (by first | exact arr_zQ | exact QtN.arr ‹_› | exact qN ‹_› ‹_› ‹_› ‹_›)) ?_; (try simp only [Act.put, nq1, nq2, nq3, nq4, nq5, nq6])
    refine wpT_loadP rfl rfl rfl rfl HS.out (.tail _ (.tail _ (.tail _ (.tail _ (.tail _ (.tail _ (.tail _ (.tail _ (.head _))))))))) rowQ (.all (by first | exact arr_zQ | exact QtN.arr ‹_› | exact qN ‹_› ‹_› ‹_› ‹_›)) ?_; (try simp only [Act.put, nq1, nq2, nq3, nq4, nq5, nq6])
    refine wpT_callF rfl rfl rfl en21_pf rfl (sameP _ (by first | assumption | exact PtN.v ‹_›) (by first | assumption | exact PtN.v ‹_›)) ?_; rintro e wy ⟨rfl, hb⟩; refine ⟨_, rfl, hb, ?_⟩; have HS := hide (HS.out.call hb); (try simp only [Act.put, nq1, nq2, nq3, nq4, nq5, nq6])
    refine wpT_callF rfl rfl rfl en22_pf rfl (samePtQ _ ‹_› ‹_›) ?_; rintro e wy ⟨rfl, hb⟩; refine ⟨_, rfl, hb, ?_⟩; have HS := hide (HS.out.call hb); (try simp only [Act.put, nq1, nq2, nq3, nq4, nq5, nq6])
    (refine wpT_pure (v := ?_) rfl rfl ?_ ?_; rotate_left; (intro wx; go_simp; try go_bits) <;> (with_reducible rfl)); (try simp only [Act.put, nq1, nq2, nq3, nq4, nq5, nq6])
    (refine wpT_pure (v := ?_) rfl rfl ?_ ?_; rotate_left; (intro wx; go_simp; try go_bits) <;> (with_reducible rfl)); (try simp only [Act.put, nq1, nq2, nq3, nq4, nq5, nq6])
    (refine wpT_pure (v := ?_) rfl rfl ?_ ?_; rotate_left; (intro wx; go_simp; try go_bits) <;> (with_reducible rfl)); (try simp only [Act.put, nq1, nq2, nq3, nq4, nq5, nq6])
    refine wpT_callF rfl rfl rfl en9_pf rfl (awake4_any _) ?_; rintro e wy ⟨rfl, hb⟩; refine ⟨_, rfl, hb, ?_⟩; have HS := hide (HS.out.call hb); (try simp only [Act.put, nq1, nq2, nq3, nq4, nq5, nq6])
    (refine wpT_pure (v := ?_) rfl rfl ?_ ?_; rotate_left; (intro wx; go_simp; try go_bits) <;> (with_reducible rfl)); (try simp only [Act.put, nq1, nq2, nq3, nq4, nq5, nq6])
    (refine wpT_pure (v := ?_) rfl rfl ?_ ?_; rotate_left; (intro wx; go_simp; try go_bits) <;> (with_reducible rfl)); (try simp only [Act.put, nq1, nq2, nq3, nq4, nq5, nq6])
    refine wpT_nil ?_
    go_wp2_with fail
    go_ret
    exact ⟨rfl, HS.out.below⟩
  · have dk : decide ((40 : Int) < (k : Int)) = true := by simp; omega
    have dk2 : decide (40 < k) = true := by simp; omega
    go_enter Tryd.func3, Tryd.ntmps3
    go_wp2_with (go_at_call 9; (with_reducible refine (awake4_any _).mono ?_); rintro e wy ⟨rfl, hb⟩; have HS := hide (HS.out.call hb))
    go_ret
    exact ⟨rfl, HS.out.below⟩
end Go.Proofs.YtgahjjdbpjgemaaDoor

/-
  The statement 'PointForms': its arguments opened; the row; the card.
-/
namespace Go.Proofs.YtgahjjdbpjgemaaDoor
open Go.ChangeShapes Go.WideShapes Go.ChangeAt Go.RowKit

set_option maxRecDepth 100000 in
theorem pointForms_lifted (os : Os) (started : os.Started) (H : Type) (enc : TypeId × Value → H) :
    ReturnsInHanded {} Tryd.checked os 3 .any (fun w args => (Rows.pointFormsSpec.pre enc Tryd.prog Tryd.f3 [] false w args ∧ laidMetH Tryd.prog LL w) ∧ sizedMet enc Tryd.prog Tryd.f3 (OpenSpec.ofChange Rows.pointFormsSpec) false w args) (Rows.pointFormsSpec.post enc Tryd.prog Tryd.f3 false true false false) := by
  refine lift_laid (C := Tryd.checked) own started (by kernel_rfl) Tryd.func3 rfl rfl (tb := 4) (by kernel_rfl) Tryd.underlying4 laidOut (by kernel_rfl) (l := LL) ?_
    (ChangeSpec.witness_shaped (enc := enc) (C := Tryd.checked) (os := os) (X := fun w _ => laidMetH Tryd.prog LL w) false (World.doorLaid Tryd.prog 400 os) #[.int .i64 0, .int .i64 0, .slice none 0 0] 8 rfl (World.shaped_of_RefB (by kernel_rfl) (by kernel_rfl)) (by kernel_rfl) (by kernel_rfl) (by kernel_rfl) (door_met os _)) ?_
  · intro ds hds
    rw [Tryd.params3] at hds
    match ds, hds with
    | [d0, d1, d2], _ => exact ⟨rfl, rfl, rfl⟩
  · intro W args ds p hT hL
    obtain ⟨hA, ⟨base, hok⟩, hsz⟩ := hT
    rw [Tryd.params3] at hA hok hsz
    obtain ⟨v0, v1, v2, d0, d1, d2, p0, p1, p2, rfl, rfl, rfl, h0, h1, h2⟩ := trodAll_three hA
    obtain ⟨n0, rfl, rfl, rfl, w0⟩ := open_int Tryd.underlying3 (hok 0 3 v0 rfl rfl) h0
    obtain ⟨n1, rfl, rfl, rfl, w1⟩ := open_int Tryd.underlying3 (hok 1 3 v1 rfl rfl) h1
    obtain ⟨a2, len2, cap2, rfl⟩ := okWide_slice Tryd.underlying22 (hok 2 22 v2 rfl rfl)
    obtain ⟨fuel2, hf2⟩ := h2
    obtain ⟨l2, rfl, r2, s2⟩ := open_bytes Tryd.underlying22 Tryd.underlying5 cellsU8 bytesU8 (show DataW.trod enc Tryd.prog W 0 (fun _ => true) true fuel2 22 [.slice a2 len2 cap2] = some (d2, p2) from hf2)
    replace s2 := s2 (fun n hn => by
      have := List.all_eq_true.1 hsz n (DataW.weights_mem_each (j := 2) rfl rfl n hn)
      simpa using this)
    exact pointForms_walk n0 n1 a2 _ cap2 l2 W (i64_of w0) rfl r2

theorem pointForms_over : Rows.pointFormsRow.holds Tryd.pinned (OpenSpec.ofChange Rows.pointFormsSpec) :=
  OpenClaim.holds_of_wide 3 Tryd.f3 rfl rfl rfl rfl rfl rfl rfl ⟨rfl, rfl, rfl, rfl, rfl⟩ rfl rfl rfl rfl rfl (by kernel_rfl) Tryd.func3 (by kernel_rfl)
    (of_decide_eq_true (by kernel_rfl)) (by unfold Func.isWrapper; first | (rw [if_pos (by decide +kernel)]; kernel_rfl) | (rw [if_neg (by decide +kernel)]; exact ⟨rfl, rfl⟩))
    (fun os started H enc _ => pointForms_lifted os started H enc)

/-- The card. -/
theorem pointForms_proved : Rows.PointFormsCardSaid :=
  Claim7.holds_tied_plain_at .later [] [.data, .data, .data, .sentinel, .sentinel] true (true, "c9b40510c079d1e14051804e9f3aa55b2e8148c7fdf3450800e1e5f47c4ae7be") true
    pointForms_over (fun _ h => by cases h) (by kernel_rfl) (fun _ h => by cases h) pointForms_row_tie rfl ⟨rfl, rfl⟩ (by kernel_rfl) rfl
    (fun f fn hf hfn => by
      obtain rfl : f = 3 := Option.some.inj ((show Tryd.prog.funcNamed "viaticum/viaticumlaw4.PointForms" = some 3 by kernel_rfl).symm.trans hf) |>.symm
      obtain rfl : fn = Tryd.f3 := (Option.some.inj (Tryd.func3.symm.trans hfn)).symm
      exact ⟨by kernel_rfl, fun j t ht => by
        rw [Tryd.params3] at ht
        have hm : t ∈ ([3, 3, 22] : List TypeId) := by
          have := Array.mem_of_getElem? ht
          simpa using this
        have hall : (([3, 3, 22] : List TypeId).all fun u => !Tryd.prog.wantsStandIn u) = true := by kernel_rfl
        have := List.all_eq_true.1 hall t hm
        exact (show Tryd.prog.wantsStandIn t = false by simpa using this)⟩)
    (by kernel_rfl)
#print axioms pointForms_proved
end Go.Proofs.YtgahjjdbpjgemaaDoor
