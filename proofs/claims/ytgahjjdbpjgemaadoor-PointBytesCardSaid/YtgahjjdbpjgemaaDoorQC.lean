/-
  Joined of texts of mine, in build order: Ie, CC. Each says what it proves at its own head.
-/
import Derived.Test.YtgahjjdbpjgemaaDoorCards
import Derived.Test.YtgahjjdbpjgemaaDoorTie
import Derived.SevenTiedAt
import Derived.Test.YtgahjjdbpjgemaaDoorPh
set_option linter.unusedSimpArgs false
set_option linter.unusedVariables false

/-
  Layer 4: the walk of PointBytes.
-/
namespace Go.Proofs.YtgahjjdbpjgemaaDoor
open Go.RowKit
set_option linter.unusedSimpArgs false
theorem neg_ne {P : Ed} (h : P.x ≠ 0) : P.neg ≠ P := fun e => by
  have h1 : -P.x = P.x := congrArg Ed.x e
  have := fneg_par P.x h
  rw [h1] at this
  omega
theorem en19_pb1 (args : Array Value) (w : World) : (callFunc 19 args).run Tryd.prog w = .ok (.enter 19 args) w := by kernel_rfl
theorem en21_pb1 (args : Array Value) (w : World) : (callFunc 21 args).run Tryd.prog w = .ok (.enter 21 args) w := by kernel_rfl
theorem en9_pb1 (args : Array Value) (w : World) : (callFunc 9 args).run Tryd.prog w = .ok (.enter 9 args) w := by kernel_rfl
set_option maxRecDepth 100000 in
set_option maxHeartbeats 6400000 in
theorem pointBytes_walk (n : Int) (w : World) (hn : I64 n) : Calls Tryd.prog 7 #[.int .i64 n] w fun e w' => e = .returned (.bool true) ∧ Below w.heap.size w w' := by
  have HS := hide (St.init w NoB)
  obtain ⟨m, hm⟩ : ∃ m, m = (n % 65536).toNat := ⟨_, rfl⟩
  have hv := smL_val n
  have ha := and_65535 n
  rw [← hm] at hv ha
  have hm2 : m < 65536 := by omega
  obtain ⟨ch, hc8, gB0, hx⟩ := flip_pack (tmE Bp (mulV (smL n)))
  have hx31 := u8_xor128 ch hc8
  have gB := bvs_get gB0
  rw [UInt8.toNat_ofNat', Nat.mod_eq_of_lt (show ch < 2 ^ 8 from hc8)] at gB
  have GB := hide gB
  have HX := hide hx
  have HM := hide (xb_lt hc8)
  clear gB0 gB hx hm
  by_cases hm0 : m = 0
  · have hPx : (tmE Bp (mulV (smL n))).x = 0 := by rw [hv, hm0]; rfl
    have HFL := hide (from_flip hPx)
    have d0 : decide ((m : Int) = 0) = true := by simp; omega
    have d1 : ((m : Int) == 0) = true := d0
    clear hm0 hPx hv
    go_enter Tryd.func7, Tryd.ntmps7
    have M0 := True.intro
    go_upto_region 6 with (first | (clear M12; go_at_call 21; (with_reducible refine (sameP _ (by first | assumption | exact PtN.v ‹_›) (by first | assumption | exact PtN.v ‹_›)).mono ?_); rintro e wy ⟨rfl, hb⟩; have HS := hide (HS.out.call hb); have M13 := True.intro) | (clear M11; refine wl_loadG rfl rfl rfl HS.out (.tail _ (.tail _ (.head _))) rowP (.all (by first | exact arr_zP | exact PtN.arr ‹_› | exact PtV.arr ‹_› | exact qE ‹_› ‹_› ‹_› ‹_›)) ?_; (try simp only [Act.put, nq1, nq2, nq3, nq4, nq5, nq6]); have M12 := True.intro) | (clear M10; refine wl_loadG rfl rfl rfl HS.out (.head _) rowP (.all (by first | exact arr_zP | exact PtN.arr ‹_› | exact PtV.arr ‹_› | exact qE ‹_› ‹_› ‹_› ‹_›)) ?_; (try simp only [Act.put, nq1, nq2, nq3, nq4, nq5, nq6]); have M11 := True.intro) | (clear M9; refine wl_storeR rfl rfl rfl rfl HS.out rowP (.head) (by first | exact arr_zP | exact PtN.arr ‹_› | exact PtV.arr ‹_› | exact qE ‹_› ‹_› ‹_› ‹_›) (by first | exact arr_zP | exact PtN.arr ‹_› | exact PtV.arr ‹_› | exact qE ‹_› ‹_› ‹_› ‹_›) ?_; intro wz hS9; have HS := hide hS9; clear hS9; (try simp only [Act.put, nq1, nq2, nq3, nq4, nq5, nq6]); have M10 := True.intro) | (clear M8; refine wl_allocR rfl rfl HS.out newP ?_; intro g5 wz hS9; have HS := hide hS9; clear hS9; (try simp only [Act.put, nq1, nq2, nq3, nq4, nq5, nq6]); have M9 := True.intro) | (clear M7; go_at_call 24; (with_reducible refine (from_some _ (from_pack _) (packL_len _) (HS.out.rd 0 rfl)).mono ?_); rintro e wy ⟨z5, hz5, rfl, hb⟩; have HS := hide (HS.out.call hb); have M8 := True.intro) | (clear M6; go_at_call 15; (with_reducible refine (bytesP32 _ (by first | assumption | exact PtN.v ‹_›)).mono ?_); rintro e wy ⟨B4, d4, rfl, hb, ho⟩; have HS := hide (HS.out.row hb ho); have cv4 := fun x (hx : From wy x) => run_str (P := Tryd.prog) Tryd.underlying22 Tryd.underlying5 Tryd.underlying9 ((HS.out.rd 0 rfl).below hx); clear ho; have M7 := True.intro) | (clear M5; refine wl_loadP rfl rfl rfl HS.out (.head _) rowP (.all (by first | exact arr_zP | exact PtN.arr ‹_› | exact PtV.arr ‹_› | exact qE ‹_› ‹_› ‹_› ‹_›)) ?_; (try simp only [Act.put, nq1, nq2, nq3, nq4, nq5, nq6]); have M6 := True.intro) | (clear M4; refine wl_storeR rfl rfl rfl rfl HS.out rowP (.head) (by first | exact arr_zP | exact PtN.arr ‹_› | exact PtV.arr ‹_› | exact qE ‹_› ‹_› ‹_› ‹_›) (by first | exact arr_zP | exact PtN.arr ‹_› | exact PtV.arr ‹_› | exact qE ‹_› ‹_› ‹_› ‹_›) ?_; intro wz hS9; have HS := hide hS9; clear hS9; (try simp only [Act.put, nq1, nq2, nq3, nq4, nq5, nq6]); have M5 := True.intro) | (clear M3; refine wl_allocR rfl rfl HS.out newP ?_; intro g3 wz hS9; have HS := hide hS9; clear hS9; (try simp only [Act.put, nq1, nq2, nq3, nq4, nq5, nq6]); have M4 := True.intro) | (clear M2; go_at_call 11; (with_reducible refine (mulP_any _ _ _ _ _ (by first | assumption | exact PtN.v ‹_›) (smL_len _) (by omega) hrs2).mono ?_); rintro e wy ⟨z3, hz3, rfl, hb⟩; have HS := hide (HS.out.call hb); have M3 := True.intro) | (clear M1; go_at_call 12; (with_reducible refine (small_any _ _ (by assumption)).mono ?_); rintro e wy ⟨gs2, rfl, hb, hrs2⟩; have HS := hide (HS.out.call hb); have M2 := True.intro) | (clear M0; go_at_call 10; (with_reducible refine (baseP _).mono ?_); rintro e wy ⟨z1, hz1, rfl, hb⟩; have HS := hide (HS.out.call hb); have M1 := True.intro))
    obtain ⟨g, c1, hvv, _, _, hcs, hfr, _⟩ := HS.out.rowOpen 1 rfl (by omega)
    injection hvv with hvv1 _ hvv3
    subst hvv1 hvv3
    have k31 := hcs 31 _ GB.out
    have f31 := hfr 31
    clear hcs hfr
    go_upto_region 7 with fail
    have h9 := HS.out.rowSet 1 rfl 31 (.int .u8 ((xb ch : Nat) : Int)) (by omega)
    simp only [List.set_cons_zero, List.set_cons_succ] at h9
    rw [bvs_set _ _ _ HM.out, HX.out] at h9
    have HS := hide h9
    clear h9 k31 f31
    have M13 := True.intro
    go_wp2_with (first | (clear M16; go_at_call 9; (with_reducible refine (awake4_any _).mono ?_); rintro e wy ⟨rfl, hb⟩; have HS := hide (HS.out.call hb); have M17 := True.intro) | (clear M15; refine wl_storeR rfl rfl rfl rfl HS.out rowP (.head) (by first | exact arr_zP | exact PtN.arr ‹_› | exact PtV.arr ‹_› | exact qE ‹_› ‹_› ‹_› ‹_›) (by first | exact arr_zP | exact PtN.arr ‹_› | exact PtV.arr ‹_› | exact qE ‹_› ‹_› ‹_› ‹_›) ?_; intro wz hS9; have HS := hide hS9; clear hS9; (try simp only [Act.put, nq1, nq2, nq3, nq4, nq5, nq6]); have M16 := True.intro) | (clear M14; refine wl_allocR rfl rfl HS.out newP ?_; intro g7 wz hS9; have HS := hide hS9; clear hS9; (try simp only [Act.put, nq1, nq2, nq3, nq4, nq5, nq6]); have M15 := True.intro) | (clear M13; go_at_call 24; (with_reducible refine (from_none _ (HFL.out) (leB_len _ _) (HS.out.rd 1 rfl)).mono ?_); rintro e wy ⟨z7, hz7, rfl, hb⟩; have HS := hide (HS.out.call hb); have M14 := True.intro))
    go_ret
    exact ⟨rfl, HS.out.below⟩
  · have hPx : (tmE Bp (mulV (smL n))).x ≠ 0 := by rw [hv]; exact tm_x (by omega) hm2
    have HPX := hide hPx
    have HFL := hide (show fromL (leB 32 (flipN (tmE Bp (mulV (smL n))))) = some (tmE Bp (mulV (smL n))).neg by rw [flip_neg hPx]; exact from_pack _)
    have d0 : decide ((m : Int) = 0) = false := by simp; omega
    have d1 : ((m : Int) == 0) = false := d0
    have d2 : ¬ (m : Int) = 0 := by omega
    clear hm0 hPx hv
    go_enter Tryd.func7, Tryd.ntmps7
    have M0 := True.intro
    go_upto_region 6 with (first | (clear M12; go_at_call 21; (with_reducible refine (sameP _ (by first | assumption | exact PtN.v ‹_›) (by first | assumption | exact PtN.v ‹_›)).mono ?_); rintro e wy ⟨rfl, hb⟩; have HS := hide (HS.out.call hb); have M13 := True.intro) | (clear M11; refine wl_loadG rfl rfl rfl HS.out (.tail _ (.tail _ (.head _))) rowP (.all (by first | exact arr_zP | exact PtN.arr ‹_› | exact PtV.arr ‹_› | exact qE ‹_› ‹_› ‹_› ‹_›)) ?_; (try simp only [Act.put, nq1, nq2, nq3, nq4, nq5, nq6]); have M12 := True.intro) | (clear M10; refine wl_loadG rfl rfl rfl HS.out (.head _) rowP (.all (by first | exact arr_zP | exact PtN.arr ‹_› | exact PtV.arr ‹_› | exact qE ‹_› ‹_› ‹_› ‹_›)) ?_; (try simp only [Act.put, nq1, nq2, nq3, nq4, nq5, nq6]); have M11 := True.intro) | (clear M9; refine wl_storeR rfl rfl rfl rfl HS.out rowP (.head) (by first | exact arr_zP | exact PtN.arr ‹_› | exact PtV.arr ‹_› | exact qE ‹_› ‹_› ‹_› ‹_›) (by first | exact arr_zP | exact PtN.arr ‹_› | exact PtV.arr ‹_› | exact qE ‹_› ‹_› ‹_› ‹_›) ?_; intro wz hS9; have HS := hide hS9; clear hS9; (try simp only [Act.put, nq1, nq2, nq3, nq4, nq5, nq6]); have M10 := True.intro) | (clear M8; refine wl_allocR rfl rfl HS.out newP ?_; intro g5 wz hS9; have HS := hide hS9; clear hS9; (try simp only [Act.put, nq1, nq2, nq3, nq4, nq5, nq6]); have M9 := True.intro) | (clear M7; go_at_call 24; (with_reducible refine (from_some _ (from_pack _) (packL_len _) (HS.out.rd 0 rfl)).mono ?_); rintro e wy ⟨z5, hz5, rfl, hb⟩; have HS := hide (HS.out.call hb); have M8 := True.intro) | (clear M6; go_at_call 15; (with_reducible refine (bytesP32 _ (by first | assumption | exact PtN.v ‹_›)).mono ?_); rintro e wy ⟨B4, d4, rfl, hb, ho⟩; have HS := hide (HS.out.row hb ho); have cv4 := fun x (hx : From wy x) => run_str (P := Tryd.prog) Tryd.underlying22 Tryd.underlying5 Tryd.underlying9 ((HS.out.rd 0 rfl).below hx); clear ho; have M7 := True.intro) | (clear M5; refine wl_loadP rfl rfl rfl HS.out (.head _) rowP (.all (by first | exact arr_zP | exact PtN.arr ‹_› | exact PtV.arr ‹_› | exact qE ‹_› ‹_› ‹_› ‹_›)) ?_; (try simp only [Act.put, nq1, nq2, nq3, nq4, nq5, nq6]); have M6 := True.intro) | (clear M4; refine wl_storeR rfl rfl rfl rfl HS.out rowP (.head) (by first | exact arr_zP | exact PtN.arr ‹_› | exact PtV.arr ‹_› | exact qE ‹_› ‹_› ‹_› ‹_›) (by first | exact arr_zP | exact PtN.arr ‹_› | exact PtV.arr ‹_› | exact qE ‹_› ‹_› ‹_› ‹_›) ?_; intro wz hS9; have HS := hide hS9; clear hS9; (try simp only [Act.put, nq1, nq2, nq3, nq4, nq5, nq6]); have M5 := True.intro) | (clear M3; refine wl_allocR rfl rfl HS.out newP ?_; intro g3 wz hS9; have HS := hide hS9; clear hS9; (try simp only [Act.put, nq1, nq2, nq3, nq4, nq5, nq6]); have M4 := True.intro) | (clear M2; go_at_call 11; (with_reducible refine (mulP_any _ _ _ _ _ (by first | assumption | exact PtN.v ‹_›) (smL_len _) (by omega) hrs2).mono ?_); rintro e wy ⟨z3, hz3, rfl, hb⟩; have HS := hide (HS.out.call hb); have M3 := True.intro) | (clear M1; go_at_call 12; (with_reducible refine (small_any _ _ (by assumption)).mono ?_); rintro e wy ⟨gs2, rfl, hb, hrs2⟩; have HS := hide (HS.out.call hb); have M2 := True.intro) | (clear M0; go_at_call 10; (with_reducible refine (baseP _).mono ?_); rintro e wy ⟨z1, hz1, rfl, hb⟩; have HS := hide (HS.out.call hb); have M1 := True.intro))
    obtain ⟨g, c1, hvv, _, _, hcs, hfr, _⟩ := HS.out.rowOpen 1 rfl (by omega)
    injection hvv with hvv1 _ hvv3
    subst hvv1 hvv3
    have k31 := hcs 31 _ GB.out
    have f31 := hfr 31
    clear hcs hfr
    go_upto_region 7 with fail
    have h9 := HS.out.rowSet 1 rfl 31 (.int .u8 ((xb ch : Nat) : Int)) (by omega)
    simp only [List.set_cons_zero, List.set_cons_succ] at h9
    rw [bvs_set _ _ _ HM.out, HX.out] at h9
    have HS := hide h9
    clear h9 k31 f31
    have M13 := True.intro
    go_upto_region 10 with (first | (clear M15; refine wl_storeR rfl rfl rfl rfl HS.out rowP (.head) (by first | exact arr_zP | exact PtN.arr ‹_› | exact PtV.arr ‹_› | exact qE ‹_› ‹_› ‹_› ‹_›) (by first | exact arr_zP | exact PtN.arr ‹_› | exact PtV.arr ‹_› | exact qE ‹_› ‹_› ‹_› ‹_›) ?_; intro wz hS9; have HS := hide hS9; clear hS9; (try simp only [Act.put, nq1, nq2, nq3, nq4, nq5, nq6]); have M16 := True.intro) | (clear M14; refine wl_allocR rfl rfl HS.out newP ?_; intro g7 wz hS9; have HS := hide hS9; clear hS9; (try simp only [Act.put, nq1, nq2, nq3, nq4, nq5, nq6]); have M15 := True.intro) | (clear M13; go_at_call 24; (with_reducible refine (from_some _ (HFL.out) (leB_len _ _) (HS.out.rd 1 rfl)).mono ?_); rintro e wy ⟨z7, hz7, rfl, hb⟩; have HS := hide (HS.out.call hb); have M14 := True.intro))
    have HS := hide HS.out.drew
    refine wp_region_T [(0, 1), (1, 1), (2, 0), (3, 0), (4, 2), (5, 2), (6, 1), (7, 1), (8, 0), (9, 0), (10, 2), (11, 1), (12, 1), (13, 1), (14, 2), (15, 1), (16, 1)] (by kernel_rfl) (by kernel_rfl) (fun _ _ _ _ h => h) ?_
    (refine wpT_pure (v := ?_) rfl rfl ?_ ?_; rotate_left; (intro wx; go_simp; try go_bits) <;> (with_reducible rfl)); (try simp only [Act.put, nq1, nq2, nq3, nq4, nq5, nq6])
    (refine wpT_pure (v := ?_) rfl rfl ?_ ?_; rotate_left; (intro wx; go_simp; try go_bits) <;> (with_reducible rfl)); (try simp only [Act.put, nq1, nq2, nq3, nq4, nq5, nq6])
    refine wpT_loadP rfl rfl rfl rfl HS.out (.head _) rowP (.all (by first | exact arr_zP | exact PtN.arr ‹_› | exact PtV.arr ‹_› | exact qE ‹_› ‹_› ‹_› ‹_›)) ?_; (try simp only [Act.put, nq1, nq2, nq3, nq4, nq5, nq6])
    refine wpT_loadP rfl rfl rfl rfl HS.out (.tail _ (.tail _ (.tail _ (.head _)))) rowP (.all (by first | exact arr_zP | exact PtN.arr ‹_› | exact PtV.arr ‹_› | exact qE ‹_› ‹_› ‹_› ‹_›)) ?_; (try simp only [Act.put, nq1, nq2, nq3, nq4, nq5, nq6])
    refine wpT_callF rfl rfl rfl en19_pb1 rfl (negP _ (by first | assumption | exact PtN.v ‹_›)) ?_; rintro e wy ⟨z8, hz8, rfl, hb⟩; refine ⟨_, rfl, hb, ?_⟩; have HS := hide (HS.out.call hb); (try simp only [Act.put, nq1, nq2, nq3, nq4, nq5, nq6])
    refine wpT_callF rfl rfl rfl en21_pb1 rfl (sameP _ (by first | assumption | exact PtN.v ‹_›) (by first | assumption | exact PtN.v ‹_›)) ?_; rintro e wy ⟨rfl, hb⟩; refine ⟨_, rfl, hb, ?_⟩; have HS := hide (HS.out.call hb); (try simp only [Act.put, nq1, nq2, nq3, nq4, nq5, nq6])
    (refine wpT_pure (v := ?_) rfl rfl ?_ ?_; rotate_left; (intro wx; go_simp; try go_bits) <;> (with_reducible rfl)); (try simp only [Act.put, nq1, nq2, nq3, nq4, nq5, nq6])
    (refine wpT_pure (v := ?_) rfl rfl ?_ ?_; rotate_left; (intro wx; go_simp; try go_bits) <;> (with_reducible rfl)); (try simp only [Act.put, nq1, nq2, nq3, nq4, nq5, nq6])
    refine wpT_loadP rfl rfl rfl rfl HS.out (.head _) rowP (.all (by first | exact arr_zP | exact PtN.arr ‹_› | exact PtV.arr ‹_› | exact qE ‹_› ‹_› ‹_› ‹_›)) ?_; (try simp only [Act.put, nq1, nq2, nq3, nq4, nq5, nq6])
    refine wpT_loadP rfl rfl rfl rfl HS.out (.tail _ (.tail _ (.tail _ (.head _)))) rowP (.all (by first | exact arr_zP | exact PtN.arr ‹_› | exact PtV.arr ‹_› | exact qE ‹_› ‹_› ‹_› ‹_›)) ?_; (try simp only [Act.put, nq1, nq2, nq3, nq4, nq5, nq6])
    refine wpT_callF rfl rfl rfl en21_pb1 rfl (sameP _ (by first | assumption | exact PtN.v ‹_›) (by first | assumption | exact PtN.v ‹_›)) ?_; rintro e wy ⟨rfl, hb⟩; rw [dec_f (neg_ne HPX.out)]; refine ⟨_, rfl, hb, ?_⟩; have HS := hide (HS.out.call hb); (try simp only [Act.put, nq1, nq2, nq3, nq4, nq5, nq6])
    (refine wpT_pure (v := ?_) rfl rfl ?_ ?_; rotate_left; (intro wx; go_simp; try go_bits) <;> (with_reducible rfl)); (try simp only [Act.put, nq1, nq2, nq3, nq4, nq5, nq6])
    (refine wpT_pure (v := ?_) rfl rfl ?_ ?_; rotate_left; (intro wx; go_simp; try go_bits) <;> (with_reducible rfl)); (try simp only [Act.put, nq1, nq2, nq3, nq4, nq5, nq6])
    (refine wpT_pure (v := ?_) rfl rfl ?_ ?_; rotate_left; (intro wx; go_simp; try go_bits) <;> (with_reducible rfl)); (try simp only [Act.put, nq1, nq2, nq3, nq4, nq5, nq6])
    refine wpT_callF rfl rfl rfl en9_pb1 rfl (awake4_any _) ?_; rintro e wy ⟨rfl, hb⟩; refine ⟨_, rfl, hb, ?_⟩; have HS := hide (HS.out.call hb); (try simp only [Act.put, nq1, nq2, nq3, nq4, nq5, nq6])
    (refine wpT_pure (v := ?_) rfl rfl ?_ ?_; rotate_left; (intro wx; go_simp; try go_bits) <;> (with_reducible rfl)); (try simp only [Act.put, nq1, nq2, nq3, nq4, nq5, nq6])
    (refine wpT_pure (v := ?_) rfl rfl ?_ ?_; rotate_left; (intro wx; go_simp; try go_bits) <;> (with_reducible rfl)); (try simp only [Act.put, nq1, nq2, nq3, nq4, nq5, nq6])
    refine wpT_nil ?_
    go_wp2_with fail
    go_ret
    exact ⟨rfl, HS.out.below⟩
end Go.Proofs.YtgahjjdbpjgemaaDoor

/-
  The statement 'PointBytes': its arguments opened; the row; the card.
-/
namespace Go.Proofs.YtgahjjdbpjgemaaDoor
open Go.ChangeShapes Go.WideShapes Go.ChangeAt Go.RowKit

set_option maxRecDepth 100000 in
theorem pointBytes_lifted (os : Os) (started : os.Started) (H : Type) (enc : TypeId × Value → H) :
    ReturnsInHanded {} Tryd.checked os 7 .any (fun w args => (Rows.pointBytesSpec.pre enc Tryd.prog Tryd.f7 [] false w args ∧ laidMetH Tryd.prog LL w) ∧ sizedMet enc Tryd.prog Tryd.f7 (OpenSpec.ofChange Rows.pointBytesSpec) false w args) (Rows.pointBytesSpec.post enc Tryd.prog Tryd.f7 false true false false) := by
  refine lift_laid (C := Tryd.checked) own started (by kernel_rfl) Tryd.func7 rfl rfl (tb := 4) (by kernel_rfl) Tryd.underlying4 laidOut (by kernel_rfl) (l := LL) ?_
    (ChangeSpec.witness_shaped (enc := enc) (C := Tryd.checked) (os := os) (X := fun w _ => laidMetH Tryd.prog LL w) false (World.doorLaid Tryd.prog 400 os) #[.int .i64 0] 8 rfl (World.shaped_of_RefB (by kernel_rfl) (by kernel_rfl)) (by kernel_rfl) (by kernel_rfl) (by kernel_rfl) (door_met os _)) ?_
  · intro ds hds
    rw [Tryd.params7] at hds
    match ds, hds with
    | [d0], _ => exact ⟨rfl, rfl, rfl⟩
  · intro W args ds p hT hL
    obtain ⟨hA, ⟨base, hok⟩, hsz⟩ := hT
    rw [Tryd.params7] at hA hok hsz
    obtain ⟨v0, d0, rfl, rfl, h0⟩ := trodAll_one hA
    obtain ⟨n0, rfl, rfl, _, w0⟩ := open_int Tryd.underlying3 (hok 0 3 v0 rfl rfl) h0
    exact pointBytes_walk n0 W (i64_of w0)

theorem pointBytes_over : Rows.pointBytesRow.holds Tryd.pinned (OpenSpec.ofChange Rows.pointBytesSpec) :=
  OpenClaim.holds_of_wide 7 Tryd.f7 rfl rfl rfl rfl rfl rfl rfl ⟨rfl, rfl, rfl, rfl, rfl⟩ rfl rfl rfl rfl rfl (by kernel_rfl) Tryd.func7 (by kernel_rfl)
    (of_decide_eq_true (by kernel_rfl)) (by unfold Func.isWrapper; first | (rw [if_pos (by decide +kernel)]; kernel_rfl) | (rw [if_neg (by decide +kernel)]; exact ⟨rfl, rfl⟩))
    (fun os started H enc _ => pointBytes_lifted os started H enc)

/-- The card. -/
theorem pointBytes_proved : Rows.PointBytesCardSaid :=
  Claim7.holds_tied_plain_at .later [] [.data, .data, .data, .sentinel, .sentinel] true (true, "c9b40510c079d1e14051804e9f3aa55b2e8148c7fdf3450800e1e5f47c4ae7be") true
    pointBytes_over (fun _ h => by cases h) (by kernel_rfl) (fun _ h => by cases h) pointBytes_row_tie rfl ⟨rfl, rfl⟩ (by kernel_rfl) rfl
    (fun f fn hf hfn => by
      obtain rfl : f = 7 := Option.some.inj ((show Tryd.prog.funcNamed "viaticum/viaticumlaw4.PointBytes" = some 7 by kernel_rfl).symm.trans hf) |>.symm
      obtain rfl : fn = Tryd.f7 := (Option.some.inj (Tryd.func7.symm.trans hfn)).symm
      exact ⟨by kernel_rfl, fun j t ht => by
        rw [Tryd.params7] at ht
        have hm : t ∈ ([3] : List TypeId) := by
          have := Array.mem_of_getElem? ht
          simpa using this
        have hall : (([3] : List TypeId).all fun u => !Tryd.prog.wantsStandIn u) = true := by kernel_rfl
        have := List.all_eq_true.1 hall t hm
        exact (show Tryd.prog.wantsStandIn t = false by simpa using this)⟩)
    (by kernel_rfl)
#print axioms pointBytes_proved
end Go.Proofs.YtgahjjdbpjgemaaDoor
