/-
 Joined of texts of mine, in build order: Ob, Oc, Od, Oe, Of, Og. Each says what it proves at its own head.
-/
import Derived.Test.YtnohmgpmmhlloaaGreatDoorPi
set_option linter.unusedSimpArgs false
set_option linter.unusedVariables false
set_option maxRecDepth 100000
set_option maxHeartbeats 25600000

namespace Go.Proofs.YtnohmgpmmhlloaaGreatDoor
open Go.RowKit
set_option linter.unusedSimpArgs false
theorem nil_len8 : ([] : List UInt8).length = 0 := rfl
theorem join23_r1 {X A1 : Option Addr} {x m1 c1 : Nat} {x1 : List UInt8} (w : World) (h1 : x1.length = m1) (hm : m1 ≤ 900000) (hr : Rd w (.slice X 1 x) 1 1 [.slice A1 m1 c1]) (r1 : Rd w (.slice A1 m1 c1) 1 m1 (bvs x1)) :
  Calls Tryz.prog 45 #[.slice X 1 x] w (BN m1 w x1) := by
 have hal : allL [PcV.mk A1 c1 x1] = x1 := by simp [allL]
 subst h1
 have := join23_any X 1 x [PcV.mk A1 c1 x1] w rfl (by rw [hal]; exact hm) hr (fun p hp => by
  obtain rfl := List.mem_singleton.1 hp
  exact r1)
 rw [hal] at this
 exact this
theorem enPubR (args : Array Value) (w : World) : (callFunc 46 args).run Tryz.prog w = .ok (.enter 46 args) w := by kernel_rfl
theorem enJoin23 (args : Array Value) (w : World) : (callFunc 45 args).run Tryz.prog w = .ok (.enter 45 args) w := by kernel_rfl
theorem issueR_bad1 (Ay Ax A : Option Addr) (m1 m2 n cy cx c : Nat) (w : World) (hne : m1 ≠ 32) : Calls Tryz.prog 13 #[.slice Ay m1 cy, .slice Ax m2 cx, .slice A n c] w (TkE w 1) := by
 have HS := hide ((St.init w NoB).alloc #[.slice none 0 0, .slice none 0 0, .slice none 0 0, .slice none 0 0] 26)
 skip
 go_enter Tryz.func13, Tryz.ntmps13
 go_wp2_with (first
  | (refine wl_storeC rfl rfl HS.out 0 rfl (vs := [.slice none 0 0, .slice none 0 0, .slice none 0 0, .slice none 0 0]) szToken (Nat.le_refl _) rfl rfl one4 ?_; intro w7 hS7; have HS7 := hide hS7; clear hS7)
  | (go_at_call 44; (with_reducible refine (seed23_no _ _ _ _ hne).mono ?_); rintro e wy ⟨rfl, rfl⟩))
 refine bodyPost_ret (results_cell_tmp_row rfl _ _ w.heap.size _ _ _ _ rfl (HS7.out.heap 0 rfl) Tryz.underlying26 rfl (by kernel_rfl)) rfl ?_
 exact ⟨rfl, HS7.out.below⟩
theorem issueR_bad2 (Ay Ax A : Option Addr) (m2 n cy cx c : Nat) (w : World) (hne : m2 ≠ 32) : Calls Tryz.prog 13 #[.slice Ay 32 cy, .slice Ax m2 cx, .slice A n c] w (TkE w 1) := by
 have HS := hide ((St.init w NoB).alloc #[.slice none 0 0, .slice none 0 0, .slice none 0 0, .slice none 0 0] 26)
 skip
 go_enter Tryz.func13, Tryz.ntmps13
 go_wp2_with (first
  | (refine wl_storeC rfl rfl HS.out 0 rfl (vs := [.slice none 0 0, .slice none 0 0, .slice none 0 0, .slice none 0 0]) szToken (Nat.le_refl _) rfl rfl one4 ?_; intro w7 hS7; have HS7 := hide hS7; clear hS7)
  | (go_at_call 44; (with_reducible refine (seed23_yes _ _ _).mono ?_); rintro e wy ⟨rfl, rfl⟩)
  | (go_at_call 44; (with_reducible refine (seed23_no _ _ _ _ hne).mono ?_); rintro e wy ⟨rfl, rfl⟩))
 refine bodyPost_ret (results_cell_tmp_row rfl _ _ w.heap.size _ _ _ _ rfl (HS7.out.heap 0 rfl) Tryz.underlying26 rfl (by kernel_rfl)) rfl ?_
 exact ⟨rfl, HS7.out.below⟩
theorem issueR_ok (Ay Ax A : Option Addr) (cy cx n c : Nat) (y nx l : List UInt8) (w : World) (hy : y.length = 32) (hx : nx.length = 32) (hl : l.length = n) (hn : n ≤ 2000) (hry : Rd w (.slice Ay 32 cy) 1 32 (bvs y)) (hrx : Rd w (.slice Ax 32 cx) 1 32 (bvs nx)) (hr : Rd w (.slice A n c) 1 n (bvs l)) :
  Calls Tryz.prog 13 #[.slice Ay 32 cy, .slice Ax 32 cx, .slice A n c] w (TkG w (issueK y nx l)) := by
 have hS0 := (St.init w NoB).alloc #[.slice none 0 0, .slice none 0 0, .slice none 0 0, .slice none 0 0] 26
 have HS := hide hS0
 have HRY := hide hry
 have HRX := hide hrx
 have HR := hide hr
 have HLY := hide hy
 have HLX := hide hx
 have HL := hide hl
 have HLM := hide (len_add3 hl nil_len8 (pubL_len nx))
 have d0 : decide ((65536 : Int) < (n : Int)) = false := by simp; omega
 clear hS0 hry hrx hr hy hx hl
 go_enter Tryz.func13, Tryz.ntmps13
 go_upto_region 3 with (go_at_call 44; (with_reducible refine (seed23_yes _ _ _).mono ?_); rintro e wy ⟨rfl, rfl⟩)
 generalize World.alloc w _ = wb at HS ⊢
 have M0 := True.intro
 go_upto_region 5 with (first
  | (clear M4; go_at_call 47; (with_reducible refine (signR_32 _ _ _ _ _ _ _ _ HLY.out HLM.out (by omega) (HRY.out.below HS.out.below) (HS.out.rd 0 rfl)).mono ?_); rintro e w5 ⟨Bg, dg, rfl, hb, ho⟩; have HS := hide (HS.out.row hb ho); have q2 : _ = some (Value.slice none 0 0) := HS.out.cell 2 rfl 2; have g2 := HS.out.free 2 rfl 2; clear ho hb; have M5 := True.intro)
  | (clear M3; go_at_call 48; (with_reducible refine (message23_core _ _ _ _ _ _ _ _ _ _ _ _ _ _ _ _ _ _ _ _ _ HL.out (by omega) (HS.out.rd 2 rfl) (pubL_len _) (by omega) (HS.out.rd 1 rfl) nil_len8 (by omega) (rd_nil _ 1) nil_len8 (by omega) (rd_nil _ 1) nil_len8 (by omega) (rd_nil _ 1)).mono ?_); rintro e w4 ⟨Bm, dm, rfl, hb, ho⟩; have HS := hide (HS.out.row hb ho); clear ho hb t0 t1 t2 t3 t4; have M4 := True.intro)
  | (clear M2; refine wl_storeC rfl rfl (HS.out.alloc _ _) 0 rfl (vs := [.slice B n d, .slice Bp 32 dp, .slice none 0 0, .slice none 0 0, .slice none 0 0]) szSigned (Nat.le_refl _) rfl rfl one5 ?_; intro w3 hS7; have HS := hide hS7; clear hS7; have t0 : _ = some (Value.slice B n d) := HS.out.cell 0 rfl 0; have t1 : _ = some (Value.slice Bp 32 dp) := HS.out.cell 0 rfl 1; have t2 : _ = some (Value.slice none 0 0) := HS.out.cell 0 rfl 2; have t3 : _ = some (Value.slice none 0 0) := HS.out.cell 0 rfl 3; have t4 : _ = some (Value.slice none 0 0) := HS.out.cell 0 rfl 4; have M3 := True.intro)
  | (clear M1; go_at_call 46; (with_reducible refine (pubR_32 _ _ _ _ HLX.out (HRX.out.below HS.out.below)).mono ?_); rintro e w2 ⟨Bp, dp, rfl, hb, ho⟩; have HS := hide (HS.out.row hb ho); clear ho hb; have M2 := True.intro)
  | (clear M0; go_at_call 45; (with_reducible refine (join23_1 _ HL.out (by omega) (HR.out.below HS.out.below)).mono ?_); rintro e w1 ⟨B, d, rfl, hb, ho⟩; have HS := hide ((HS.out.skip _).row hb ho); clear ho hb; have M1 := True.intro))
 have HS := hide (HS.out.setCell 2 rfl 2 (.slice Bg 64 dg))
 clear q2 g2
 generalize World.setCell w5 _ _ = w6 at HS ⊢
 have HS : Hid (St w NoB w6 [.row (.slice Bg 64 dg) 5 1 64 (bvs (sigL y (l ++ ([] ++ pubL nx)))), .row (.slice Bm (n + (0 + 32)) dm) 5 1 (n + (0 + 32)) (bvs (l ++ ([] ++ pubL nx))), .cells w2.heap.size #[.slice B n d, .slice Bp 32 dp, .slice Bg 64 dg, .slice none 0 0, .slice none 0 0] 32, .row (.slice Bp 32 dp) 5 1 32 (bvs (pubL nx)), .row (.slice B n d) 5 1 n (bvs l), .cells w.heap.size #[.slice none 0 0, .slice none 0 0, .slice none 0 0, .slice none 0 0] 26]) := HS
 refine wp_region_S (.op 0 1 (.op 2 0 (.op 4 1 (.three 1 3 5 (.two 3 5 (.op 5 2 (.op 6 2 (.op 7 1 (.op 8 3 (.op 9 1 (.nil)))))) (.two 3 6 (.op 6 2 (.op 7 1 (.op 8 3 (.op 9 1 (.nil))))) (.op 3 2 (.op 7 1 (.op 8 3 (.op 9 1 (.nil))))))) (.two 1 5 (.op 5 2 (.op 6 2 (.op 7 1 (.op 8 3 (.op 9 1 (.nil)))))) (.op 1 2 (.op 6 2 (.op 7 1 (.op 8 3 (.op 9 1 (.nil))))))) (.two 1 3 (.two 3 6 (.op 6 2 (.op 7 1 (.op 8 3 (.op 9 1 (.nil))))) (.op 3 2 (.op 7 1 (.op 8 3 (.op 9 1 (.nil)))))) (.op 1 2 (.op 6 2 (.op 7 1 (.op 8 3 (.op 9 1 (.nil))))))))))) (by kernel_rfl) (by kernel_rfl) (fun _ _ _ _ h => h) ?_
 have HS := hide HS.out.drew
 generalize w6.drew = w7 at HS ⊢
 have t0 : _ = some (Value.slice B n d) := HS.out.cell 2 rfl 0
 have t1 : _ = some (Value.slice Bp 32 dp) := HS.out.cell 2 rfl 1
 have t2 : _ = some (Value.slice Bg 64 dg) := HS.out.cell 2 rfl 2
 have t3 : _ = some (Value.slice none 0 0) := HS.out.cell 2 rfl 3
 have t4 : _ = some (Value.slice none 0 0) := HS.out.cell 2 rfl 4
 have HA := hide (St.init w7 NoB)
 (refine wpS_pure (v := ?_) rfl rfl ?_ ?_; rotate_left; (intro wx; go_simp; try go_bits) <;> (with_reducible rfl)); (try simp only [Act.put, nq1, nq2, nq3, nq4, nq5, nq6])
 (refine wpS_load (v := ?_) rfl rfl rfl ?_ ?_; rotate_left; (go_simp; try go_bits) <;> (with_reducible rfl)); (try simp only [Act.put, nq1, nq2, nq3, nq4, nq5, nq6])
 (refine wpS_pure (v := ?_) rfl rfl ?_ ?_; rotate_left; (intro wx; go_simp; try go_bits) <;> (with_reducible rfl)); (try simp only [Act.put, nq1, nq2, nq3, nq4, nq5, nq6])
 refine wpS_three ?_ ?_ ?_
 ·refine wpS_call rfl rfl ?_; intro K hK; refine wp_call rfl enPubR rfl (pubR_32 _ _ _ _ HLY.out (HRY.out.below (HS.out.call HA.out.below).below)) ?_; rintro e wp ⟨Pr, dr, rfl, hb, ho⟩; refine ⟨_, rfl, ?_⟩; have HA := hide (HA.out.row hb ho); clear hb ho; refine hK _ _ (fromT_mk HA.out.below ?_); (try simp only [Act.put, nq1, nq2, nq3, nq4, nq5, nq6])
  refine wpS_two ?_ ?_
  ·refine wpS_call rfl rfl ?_; intro K hK; (show Oper.wp _ _ _ _ _ _); (unfold Oper.wp; go_simp); have HA := hide (HA.out.lit [.slice B n d, .slice Bp 32 dp, .slice Bg 64 dg, .slice none 0 0, .slice none 0 0] 32 5 1 rfl (by decide)); have hlb : _ = wp.heap.size := rfl; generalize World.alloc _ _ = ws at HA ⊢; refine hK _ _ (fromT_mk HA.out.below ?_); (try simp only [Act.put, nq1, nq2, nq3, nq4, nq5, nq6])
   refine wpS_call rfl rfl ?_; intro K hK; (show Oper.wp _ _ _ _ _ _); (unfold Oper.wp; go_simp); have HA := hide (HA.out.lit [.slice Ax 32 cx] 22 1 1 rfl (by decide)); generalize World.alloc _ _ = wm at HA ⊢; refine hK _ _ (fromT_mk HA.out.below ?_); (try simp only [Act.put, nq1, nq2, nq3, nq4, nq5, nq6])
   refine wpS_call rfl rfl ?_; intro K hK; refine wp_call rfl enJoin23 rfl (join23_r1 _ HLX.out (by omega) (HA.out.rd 0 rfl) (HRX.out.below (HS.out.call HA.out.below).below)) ?_; rintro e wj ⟨Jn, dj, rfl, hb, ho⟩; refine ⟨_, rfl, ?_⟩; have HA := hide (HA.out.row hb ho); clear hb ho; refine hK _ _ (fromT_mk HA.out.below ?_); (try simp only [Act.put, nq1, nq2, nq3, nq4, nq5, nq6])
   (refine wpS_pure (v := ?_) rfl rfl ?_ ?_; rotate_left; (intro wx; go_simp; try go_bits) <;> (with_reducible rfl)); (try simp only [Act.put, nq1, nq2, nq3, nq4, nq5, nq6])
   have HJ := hide (HS.out.join HA.out)
   refine wpS_late rfl rfl ?_; intro K hK; refine wp_storeC rfl HJ.out 9 rfl (vs := [.slice Pr 32 dr, .slice (some ⟨wp.heap.size, 0, none⟩) 1 1, .slice Jn 32 dj, .slice none 0 0]) szToken (Nat.le_refl _) rfl rfl one4 ?_; intro wz hS9; have HS7 := hide hS9; clear hS9; refine hK _ _ ?_; (try simp only [Act.put, nq1, nq2, nq3, nq4, nq5, nq6])
   (refine wpS_pure (v := ?_) rfl rfl ?_ ?_; rotate_left; (intro wx; go_simp; try go_bits) <;> (with_reducible rfl)); (try simp only [Act.put, nq1, nq2, nq3, nq4, nq5, nq6])
   refine wpS_nil ?_
   go_wp2_with fail
   refine bodyPost_ret (results_cell_tmp_row rfl _ _ w.heap.size _ _ _ _ rfl (HS7.out.heap 9 rfl) Tryz.underlying26 rfl (by kernel_rfl)) rfl ?_
   refine ⟨⟨⟨Pr, dr, pubL y⟩, (some ⟨wp.heap.size, 0, none⟩), 1, [(Sg.mk ⟨B, d, l⟩ ⟨Bp, dp, pubL nx⟩ ⟨Bg, dg, sigL y (l ++ ([] ++ pubL nx))⟩ pc0 pc0)], ⟨Jn, dj, nx⟩, pc0⟩, _, ?_, ?_, ⟨List.mem_cons_of_mem _ (pc_ch (pubL_len _) 3 rfl), List.mem_cons_of_mem _ ?_, fun v hv => ?_, List.mem_cons_of_mem _ (pc_ch HLX.out 0 rfl), List.mem_cons_self ..⟩, HS7.out.row (Below.refl _ _) (World.ownsRow_nil _ _ _ _)⟩
   ·rw [Tk.val_eq]
    simp only [pubL_len, HLX.out]
    rfl
   ·rfl
   ·have e : sgCells [(Sg.mk ⟨B, d, l⟩ ⟨Bp, dp, pubL nx⟩ ⟨Bg, dg, sigL y (l ++ ([] ++ pubL nx))⟩ pc0 pc0)] = [.slice B n d, .slice Bp 32 dp, .slice Bg 64 dg, .slice none 0 0, .slice none 0 0] := by
     show [Value.slice B l.length d, .slice Bp (pubL nx).length dp, .slice Bg (sigL y (l ++ ([] ++ pubL nx))).length dg, _, _] = _
     rw [HL.out, pubL_len, sigL_len]
     rfl
    rw [e]
    exact List.mem_of_getElem? (i := 2) rfl
   ·obtain rfl := List.mem_singleton.1 hv
    intro c hc
    simp only [Sg.chs, List.mem_cons, List.not_mem_nil, or_false] at hc
    rcases hc with rfl | rfl | rfl | rfl | rfl
    ·exact List.mem_cons_of_mem _ (pc_ch HL.out 8 rfl)
    ·exact List.mem_cons_of_mem _ (pc_ch (pubL_len _) 7 rfl)
    ·exact List.mem_cons_of_mem _ (pc_ch (sigL_len _ _) 4 rfl)
    ·exact List.mem_cons_self ..
    ·exact List.mem_cons_self ..
  ·refine wpS_call rfl rfl ?_; intro K hK; (show Oper.wp _ _ _ _ _ _); (unfold Oper.wp; go_simp); have HA := hide (HA.out.lit [.slice Ax 32 cx] 22 1 1 rfl (by decide)); generalize World.alloc _ _ = wm at HA ⊢; refine hK _ _ (fromT_mk HA.out.below ?_); (try simp only [Act.put, nq1, nq2, nq3, nq4, nq5, nq6])
   refine wpS_two ?_ ?_
   ·refine wpS_call rfl rfl ?_; intro K hK; (show Oper.wp _ _ _ _ _ _); (unfold Oper.wp; go_simp); have HA := hide (HA.out.lit [.slice B n d, .slice Bp 32 dp, .slice Bg 64 dg, .slice none 0 0, .slice none 0 0] 32 5 1 rfl (by decide)); have hlb : _ = wm.heap.size := rfl; generalize World.alloc _ _ = ws at HA ⊢; refine hK _ _ (fromT_mk HA.out.below ?_); (try simp only [Act.put, nq1, nq2, nq3, nq4, nq5, nq6])
    refine wpS_call rfl rfl ?_; intro K hK; refine wp_call rfl enJoin23 rfl (join23_r1 _ HLX.out (by omega) (HA.out.rd 1 rfl) (HRX.out.below (HS.out.call HA.out.below).below)) ?_; rintro e wj ⟨Jn, dj, rfl, hb, ho⟩; refine ⟨_, rfl, ?_⟩; have HA := hide (HA.out.row hb ho); clear hb ho; refine hK _ _ (fromT_mk HA.out.below ?_); (try simp only [Act.put, nq1, nq2, nq3, nq4, nq5, nq6])
    (refine wpS_pure (v := ?_) rfl rfl ?_ ?_; rotate_left; (intro wx; go_simp; try go_bits) <;> (with_reducible rfl)); (try simp only [Act.put, nq1, nq2, nq3, nq4, nq5, nq6])
    have HJ := hide (HS.out.join HA.out)
    refine wpS_late rfl rfl ?_; intro K hK; refine wp_storeC rfl HJ.out 9 rfl (vs := [.slice Pr 32 dr, .slice (some ⟨wm.heap.size, 0, none⟩) 1 1, .slice Jn 32 dj, .slice none 0 0]) szToken (Nat.le_refl _) rfl rfl one4 ?_; intro wz hS9; have HS7 := hide hS9; clear hS9; refine hK _ _ ?_; (try simp only [Act.put, nq1, nq2, nq3, nq4, nq5, nq6])
    (refine wpS_pure (v := ?_) rfl rfl ?_ ?_; rotate_left; (intro wx; go_simp; try go_bits) <;> (with_reducible rfl)); (try simp only [Act.put, nq1, nq2, nq3, nq4, nq5, nq6])
    refine wpS_nil ?_
    go_wp2_with fail
    refine bodyPost_ret (results_cell_tmp_row rfl _ _ w.heap.size _ _ _ _ rfl (HS7.out.heap 9 rfl) Tryz.underlying26 rfl (by kernel_rfl)) rfl ?_
    refine ⟨⟨⟨Pr, dr, pubL y⟩, (some ⟨wm.heap.size, 0, none⟩), 1, [(Sg.mk ⟨B, d, l⟩ ⟨Bp, dp, pubL nx⟩ ⟨Bg, dg, sigL y (l ++ ([] ++ pubL nx))⟩ pc0 pc0)], ⟨Jn, dj, nx⟩, pc0⟩, _, ?_, ?_, ⟨List.mem_cons_of_mem _ (pc_ch (pubL_len _) 3 rfl), List.mem_cons_of_mem _ ?_, fun v hv => ?_, List.mem_cons_of_mem _ (pc_ch HLX.out 0 rfl), List.mem_cons_self ..⟩, HS7.out.row (Below.refl _ _) (World.ownsRow_nil _ _ _ _)⟩
    ·rw [Tk.val_eq]
     simp only [pubL_len, HLX.out]
     rfl
    ·rfl
    ·have e : sgCells [(Sg.mk ⟨B, d, l⟩ ⟨Bp, dp, pubL nx⟩ ⟨Bg, dg, sigL y (l ++ ([] ++ pubL nx))⟩ pc0 pc0)] = [.slice B n d, .slice Bp 32 dp, .slice Bg 64 dg, .slice none 0 0, .slice none 0 0] := by
      show [Value.slice B l.length d, .slice Bp (pubL nx).length dp, .slice Bg (sigL y (l ++ ([] ++ pubL nx))).length dg, _, _] = _
      rw [HL.out, pubL_len, sigL_len]
      rfl
     rw [e]
     exact List.mem_of_getElem? (i := 1) rfl
    ·obtain rfl := List.mem_singleton.1 hv
     intro c hc
     simp only [Sg.chs, List.mem_cons, List.not_mem_nil, or_false] at hc
     rcases hc with rfl | rfl | rfl | rfl | rfl
     ·exact List.mem_cons_of_mem _ (pc_ch HL.out 8 rfl)
     ·exact List.mem_cons_of_mem _ (pc_ch (pubL_len _) 7 rfl)
     ·exact List.mem_cons_of_mem _ (pc_ch (sigL_len _ _) 4 rfl)
     ·exact List.mem_cons_self ..
     ·exact List.mem_cons_self ..
   ·refine wpS_call rfl rfl ?_; intro K hK; refine wp_call rfl enJoin23 rfl (join23_r1 _ HLX.out (by omega) (HA.out.rd 0 rfl) (HRX.out.below (HS.out.call HA.out.below).below)) ?_; rintro e wj ⟨Jn, dj, rfl, hb, ho⟩; refine ⟨_, rfl, ?_⟩; have HA := hide (HA.out.row hb ho); clear hb ho; refine hK _ _ (fromT_mk HA.out.below ?_); (try simp only [Act.put, nq1, nq2, nq3, nq4, nq5, nq6])
    refine wpS_call rfl rfl ?_; intro K hK; (show Oper.wp _ _ _ _ _ _); (unfold Oper.wp; go_simp); have HA := hide (HA.out.lit [.slice B n d, .slice Bp 32 dp, .slice Bg 64 dg, .slice none 0 0, .slice none 0 0] 32 5 1 rfl (by decide)); have hlb : _ = wj.heap.size := rfl; generalize World.alloc _ _ = ws at HA ⊢; refine hK _ _ (fromT_mk HA.out.below ?_); (try simp only [Act.put, nq1, nq2, nq3, nq4, nq5, nq6])
    (refine wpS_pure (v := ?_) rfl rfl ?_ ?_; rotate_left; (intro wx; go_simp; try go_bits) <;> (with_reducible rfl)); (try simp only [Act.put, nq1, nq2, nq3, nq4, nq5, nq6])
    have HJ := hide (HS.out.join HA.out)
    refine wpS_late rfl rfl ?_; intro K hK; refine wp_storeC rfl HJ.out 9 rfl (vs := [.slice Pr 32 dr, .slice (some ⟨wj.heap.size, 0, none⟩) 1 1, .slice Jn 32 dj, .slice none 0 0]) szToken (Nat.le_refl _) rfl rfl one4 ?_; intro wz hS9; have HS7 := hide hS9; clear hS9; refine hK _ _ ?_; (try simp only [Act.put, nq1, nq2, nq3, nq4, nq5, nq6])
    (refine wpS_pure (v := ?_) rfl rfl ?_ ?_; rotate_left; (intro wx; go_simp; try go_bits) <;> (with_reducible rfl)); (try simp only [Act.put, nq1, nq2, nq3, nq4, nq5, nq6])
    refine wpS_nil ?_
    go_wp2_with fail
    refine bodyPost_ret (results_cell_tmp_row rfl _ _ w.heap.size _ _ _ _ rfl (HS7.out.heap 9 rfl) Tryz.underlying26 rfl (by kernel_rfl)) rfl ?_
    refine ⟨⟨⟨Pr, dr, pubL y⟩, (some ⟨wj.heap.size, 0, none⟩), 1, [(Sg.mk ⟨B, d, l⟩ ⟨Bp, dp, pubL nx⟩ ⟨Bg, dg, sigL y (l ++ ([] ++ pubL nx))⟩ pc0 pc0)], ⟨Jn, dj, nx⟩, pc0⟩, _, ?_, ?_, ⟨List.mem_cons_of_mem _ (pc_ch (pubL_len _) 3 rfl), List.mem_cons_of_mem _ ?_, fun v hv => ?_, List.mem_cons_of_mem _ (pc_ch HLX.out 1 rfl), List.mem_cons_self ..⟩, HS7.out.row (Below.refl _ _) (World.ownsRow_nil _ _ _ _)⟩
    ·rw [Tk.val_eq]
     simp only [pubL_len, HLX.out]
     rfl
    ·rfl
    ·have e : sgCells [(Sg.mk ⟨B, d, l⟩ ⟨Bp, dp, pubL nx⟩ ⟨Bg, dg, sigL y (l ++ ([] ++ pubL nx))⟩ pc0 pc0)] = [.slice B n d, .slice Bp 32 dp, .slice Bg 64 dg, .slice none 0 0, .slice none 0 0] := by
      show [Value.slice B l.length d, .slice Bp (pubL nx).length dp, .slice Bg (sigL y (l ++ ([] ++ pubL nx))).length dg, _, _] = _
      rw [HL.out, pubL_len, sigL_len]
      rfl
     rw [e]
     exact List.mem_of_getElem? (i := 0) rfl
    ·obtain rfl := List.mem_singleton.1 hv
     intro c hc
     simp only [Sg.chs, List.mem_cons, List.not_mem_nil, or_false] at hc
     rcases hc with rfl | rfl | rfl | rfl | rfl
     ·exact List.mem_cons_of_mem _ (pc_ch HL.out 8 rfl)
     ·exact List.mem_cons_of_mem _ (pc_ch (pubL_len _) 7 rfl)
     ·exact List.mem_cons_of_mem _ (pc_ch (sigL_len _ _) 4 rfl)
     ·exact List.mem_cons_self ..
     ·exact List.mem_cons_self ..
 ·refine wpS_call rfl rfl ?_; intro K hK; (show Oper.wp _ _ _ _ _ _); (unfold Oper.wp; go_simp); have HA := hide (HA.out.lit [.slice B n d, .slice Bp 32 dp, .slice Bg 64 dg, .slice none 0 0, .slice none 0 0] 32 5 1 rfl (by decide)); have hlb : _ = w7.heap.size := rfl; generalize World.alloc _ _ = ws at HA ⊢; refine hK _ _ (fromT_mk HA.out.below ?_); (try simp only [Act.put, nq1, nq2, nq3, nq4, nq5, nq6])
  refine wpS_two ?_ ?_
  ·refine wpS_call rfl rfl ?_; intro K hK; refine wp_call rfl enPubR rfl (pubR_32 _ _ _ _ HLY.out (HRY.out.below (HS.out.call HA.out.below).below)) ?_; rintro e wp ⟨Pr, dr, rfl, hb, ho⟩; refine ⟨_, rfl, ?_⟩; have HA := hide (HA.out.row hb ho); clear hb ho; refine hK _ _ (fromT_mk HA.out.below ?_); (try simp only [Act.put, nq1, nq2, nq3, nq4, nq5, nq6])
   refine wpS_call rfl rfl ?_; intro K hK; (show Oper.wp _ _ _ _ _ _); (unfold Oper.wp; go_simp); have HA := hide (HA.out.lit [.slice Ax 32 cx] 22 1 1 rfl (by decide)); generalize World.alloc _ _ = wm at HA ⊢; refine hK _ _ (fromT_mk HA.out.below ?_); (try simp only [Act.put, nq1, nq2, nq3, nq4, nq5, nq6])
   refine wpS_call rfl rfl ?_; intro K hK; refine wp_call rfl enJoin23 rfl (join23_r1 _ HLX.out (by omega) (HA.out.rd 0 rfl) (HRX.out.below (HS.out.call HA.out.below).below)) ?_; rintro e wj ⟨Jn, dj, rfl, hb, ho⟩; refine ⟨_, rfl, ?_⟩; have HA := hide (HA.out.row hb ho); clear hb ho; refine hK _ _ (fromT_mk HA.out.below ?_); (try simp only [Act.put, nq1, nq2, nq3, nq4, nq5, nq6])
   (refine wpS_pure (v := ?_) rfl rfl ?_ ?_; rotate_left; (intro wx; go_simp; try go_bits) <;> (with_reducible rfl)); (try simp only [Act.put, nq1, nq2, nq3, nq4, nq5, nq6])
   have HJ := hide (HS.out.join HA.out)
   refine wpS_late rfl rfl ?_; intro K hK; refine wp_storeC rfl HJ.out 9 rfl (vs := [.slice Pr 32 dr, .slice (some ⟨w7.heap.size, 0, none⟩) 1 1, .slice Jn 32 dj, .slice none 0 0]) szToken (Nat.le_refl _) rfl rfl one4 ?_; intro wz hS9; have HS7 := hide hS9; clear hS9; refine hK _ _ ?_; (try simp only [Act.put, nq1, nq2, nq3, nq4, nq5, nq6])
   (refine wpS_pure (v := ?_) rfl rfl ?_ ?_; rotate_left; (intro wx; go_simp; try go_bits) <;> (with_reducible rfl)); (try simp only [Act.put, nq1, nq2, nq3, nq4, nq5, nq6])
   refine wpS_nil ?_
   go_wp2_with fail
   refine bodyPost_ret (results_cell_tmp_row rfl _ _ w.heap.size _ _ _ _ rfl (HS7.out.heap 9 rfl) Tryz.underlying26 rfl (by kernel_rfl)) rfl ?_
   refine ⟨⟨⟨Pr, dr, pubL y⟩, (some ⟨w7.heap.size, 0, none⟩), 1, [(Sg.mk ⟨B, d, l⟩ ⟨Bp, dp, pubL nx⟩ ⟨Bg, dg, sigL y (l ++ ([] ++ pubL nx))⟩ pc0 pc0)], ⟨Jn, dj, nx⟩, pc0⟩, _, ?_, ?_, ⟨List.mem_cons_of_mem _ (pc_ch (pubL_len _) 2 rfl), List.mem_cons_of_mem _ ?_, fun v hv => ?_, List.mem_cons_of_mem _ (pc_ch HLX.out 0 rfl), List.mem_cons_self ..⟩, HS7.out.row (Below.refl _ _) (World.ownsRow_nil _ _ _ _)⟩
   ·rw [Tk.val_eq]
    simp only [pubL_len, HLX.out]
    rfl
   ·rfl
   ·have e : sgCells [(Sg.mk ⟨B, d, l⟩ ⟨Bp, dp, pubL nx⟩ ⟨Bg, dg, sigL y (l ++ ([] ++ pubL nx))⟩ pc0 pc0)] = [.slice B n d, .slice Bp 32 dp, .slice Bg 64 dg, .slice none 0 0, .slice none 0 0] := by
     show [Value.slice B l.length d, .slice Bp (pubL nx).length dp, .slice Bg (sigL y (l ++ ([] ++ pubL nx))).length dg, _, _] = _
     rw [HL.out, pubL_len, sigL_len]
     rfl
    rw [e]
    exact List.mem_of_getElem? (i := 3) rfl
   ·obtain rfl := List.mem_singleton.1 hv
    intro c hc
    simp only [Sg.chs, List.mem_cons, List.not_mem_nil, or_false] at hc
    rcases hc with rfl | rfl | rfl | rfl | rfl
    ·exact List.mem_cons_of_mem _ (pc_ch HL.out 8 rfl)
    ·exact List.mem_cons_of_mem _ (pc_ch (pubL_len _) 7 rfl)
    ·exact List.mem_cons_of_mem _ (pc_ch (sigL_len _ _) 4 rfl)
    ·exact List.mem_cons_self ..
    ·exact List.mem_cons_self ..
  ·refine wpS_call rfl rfl ?_; intro K hK; (show Oper.wp _ _ _ _ _ _); (unfold Oper.wp; go_simp); have HA := hide (HA.out.lit [.slice Ax 32 cx] 22 1 1 rfl (by decide)); generalize World.alloc _ _ = wm at HA ⊢; refine hK _ _ (fromT_mk HA.out.below ?_); (try simp only [Act.put, nq1, nq2, nq3, nq4, nq5, nq6])
   refine wpS_call rfl rfl ?_; intro K hK; refine wp_call rfl enPubR rfl (pubR_32 _ _ _ _ HLY.out (HRY.out.below (HS.out.call HA.out.below).below)) ?_; rintro e wp ⟨Pr, dr, rfl, hb, ho⟩; refine ⟨_, rfl, ?_⟩; have HA := hide (HA.out.row hb ho); clear hb ho; refine hK _ _ (fromT_mk HA.out.below ?_); (try simp only [Act.put, nq1, nq2, nq3, nq4, nq5, nq6])
   refine wpS_call rfl rfl ?_; intro K hK; refine wp_call rfl enJoin23 rfl (join23_r1 _ HLX.out (by omega) (HA.out.rd 1 rfl) (HRX.out.below (HS.out.call HA.out.below).below)) ?_; rintro e wj ⟨Jn, dj, rfl, hb, ho⟩; refine ⟨_, rfl, ?_⟩; have HA := hide (HA.out.row hb ho); clear hb ho; refine hK _ _ (fromT_mk HA.out.below ?_); (try simp only [Act.put, nq1, nq2, nq3, nq4, nq5, nq6])
   (refine wpS_pure (v := ?_) rfl rfl ?_ ?_; rotate_left; (intro wx; go_simp; try go_bits) <;> (with_reducible rfl)); (try simp only [Act.put, nq1, nq2, nq3, nq4, nq5, nq6])
   have HJ := hide (HS.out.join HA.out)
   refine wpS_late rfl rfl ?_; intro K hK; refine wp_storeC rfl HJ.out 9 rfl (vs := [.slice Pr 32 dr, .slice (some ⟨w7.heap.size, 0, none⟩) 1 1, .slice Jn 32 dj, .slice none 0 0]) szToken (Nat.le_refl _) rfl rfl one4 ?_; intro wz hS9; have HS7 := hide hS9; clear hS9; refine hK _ _ ?_; (try simp only [Act.put, nq1, nq2, nq3, nq4, nq5, nq6])
   (refine wpS_pure (v := ?_) rfl rfl ?_ ?_; rotate_left; (intro wx; go_simp; try go_bits) <;> (with_reducible rfl)); (try simp only [Act.put, nq1, nq2, nq3, nq4, nq5, nq6])
   refine wpS_nil ?_
   go_wp2_with fail
   refine bodyPost_ret (results_cell_tmp_row rfl _ _ w.heap.size _ _ _ _ rfl (HS7.out.heap 9 rfl) Tryz.underlying26 rfl (by kernel_rfl)) rfl ?_
   refine ⟨⟨⟨Pr, dr, pubL y⟩, (some ⟨w7.heap.size, 0, none⟩), 1, [(Sg.mk ⟨B, d, l⟩ ⟨Bp, dp, pubL nx⟩ ⟨Bg, dg, sigL y (l ++ ([] ++ pubL nx))⟩ pc0 pc0)], ⟨Jn, dj, nx⟩, pc0⟩, _, ?_, ?_, ⟨List.mem_cons_of_mem _ (pc_ch (pubL_len _) 1 rfl), List.mem_cons_of_mem _ ?_, fun v hv => ?_, List.mem_cons_of_mem _ (pc_ch HLX.out 0 rfl), List.mem_cons_self ..⟩, HS7.out.row (Below.refl _ _) (World.ownsRow_nil _ _ _ _)⟩
   ·rw [Tk.val_eq]
    simp only [pubL_len, HLX.out]
    rfl
   ·rfl
   ·have e : sgCells [(Sg.mk ⟨B, d, l⟩ ⟨Bp, dp, pubL nx⟩ ⟨Bg, dg, sigL y (l ++ ([] ++ pubL nx))⟩ pc0 pc0)] = [.slice B n d, .slice Bp 32 dp, .slice Bg 64 dg, .slice none 0 0, .slice none 0 0] := by
     show [Value.slice B l.length d, .slice Bp (pubL nx).length dp, .slice Bg (sigL y (l ++ ([] ++ pubL nx))).length dg, _, _] = _
     rw [HL.out, pubL_len, sigL_len]
     rfl
    rw [e]
    exact List.mem_of_getElem? (i := 3) rfl
   ·obtain rfl := List.mem_singleton.1 hv
    intro c hc
    simp only [Sg.chs, List.mem_cons, List.not_mem_nil, or_false] at hc
    rcases hc with rfl | rfl | rfl | rfl | rfl
    ·exact List.mem_cons_of_mem _ (pc_ch HL.out 8 rfl)
    ·exact List.mem_cons_of_mem _ (pc_ch (pubL_len _) 7 rfl)
    ·exact List.mem_cons_of_mem _ (pc_ch (sigL_len _ _) 4 rfl)
    ·exact List.mem_cons_self ..
    ·exact List.mem_cons_self ..
 ·refine wpS_call rfl rfl ?_; intro K hK; (show Oper.wp _ _ _ _ _ _); (unfold Oper.wp; go_simp); have HA := hide (HA.out.lit [.slice Ax 32 cx] 22 1 1 rfl (by decide)); generalize World.alloc _ _ = wm at HA ⊢; refine hK _ _ (fromT_mk HA.out.below ?_); (try simp only [Act.put, nq1, nq2, nq3, nq4, nq5, nq6])
  refine wpS_two ?_ ?_
  ·refine wpS_call rfl rfl ?_; intro K hK; refine wp_call rfl enPubR rfl (pubR_32 _ _ _ _ HLY.out (HRY.out.below (HS.out.call HA.out.below).below)) ?_; rintro e wp ⟨Pr, dr, rfl, hb, ho⟩; refine ⟨_, rfl, ?_⟩; have HA := hide (HA.out.row hb ho); clear hb ho; refine hK _ _ (fromT_mk HA.out.below ?_); (try simp only [Act.put, nq1, nq2, nq3, nq4, nq5, nq6])
   refine wpS_two ?_ ?_
   ·refine wpS_call rfl rfl ?_; intro K hK; (show Oper.wp _ _ _ _ _ _); (unfold Oper.wp; go_simp); have HA := hide (HA.out.lit [.slice B n d, .slice Bp 32 dp, .slice Bg 64 dg, .slice none 0 0, .slice none 0 0] 32 5 1 rfl (by decide)); have hlb : _ = wp.heap.size := rfl; generalize World.alloc _ _ = ws at HA ⊢; refine hK _ _ (fromT_mk HA.out.below ?_); (try simp only [Act.put, nq1, nq2, nq3, nq4, nq5, nq6])
    refine wpS_call rfl rfl ?_; intro K hK; refine wp_call rfl enJoin23 rfl (join23_r1 _ HLX.out (by omega) (HA.out.rd 2 rfl) (HRX.out.below (HS.out.call HA.out.below).below)) ?_; rintro e wj ⟨Jn, dj, rfl, hb, ho⟩; refine ⟨_, rfl, ?_⟩; have HA := hide (HA.out.row hb ho); clear hb ho; refine hK _ _ (fromT_mk HA.out.below ?_); (try simp only [Act.put, nq1, nq2, nq3, nq4, nq5, nq6])
    (refine wpS_pure (v := ?_) rfl rfl ?_ ?_; rotate_left; (intro wx; go_simp; try go_bits) <;> (with_reducible rfl)); (try simp only [Act.put, nq1, nq2, nq3, nq4, nq5, nq6])
    have HJ := hide (HS.out.join HA.out)
    refine wpS_late rfl rfl ?_; intro K hK; refine wp_storeC rfl HJ.out 9 rfl (vs := [.slice Pr 32 dr, .slice (some ⟨wp.heap.size, 0, none⟩) 1 1, .slice Jn 32 dj, .slice none 0 0]) szToken (Nat.le_refl _) rfl rfl one4 ?_; intro wz hS9; have HS7 := hide hS9; clear hS9; refine hK _ _ ?_; (try simp only [Act.put, nq1, nq2, nq3, nq4, nq5, nq6])
    (refine wpS_pure (v := ?_) rfl rfl ?_ ?_; rotate_left; (intro wx; go_simp; try go_bits) <;> (with_reducible rfl)); (try simp only [Act.put, nq1, nq2, nq3, nq4, nq5, nq6])
    refine wpS_nil ?_
    go_wp2_with fail
    refine bodyPost_ret (results_cell_tmp_row rfl _ _ w.heap.size _ _ _ _ rfl (HS7.out.heap 9 rfl) Tryz.underlying26 rfl (by kernel_rfl)) rfl ?_
    refine ⟨⟨⟨Pr, dr, pubL y⟩, (some ⟨wp.heap.size, 0, none⟩), 1, [(Sg.mk ⟨B, d, l⟩ ⟨Bp, dp, pubL nx⟩ ⟨Bg, dg, sigL y (l ++ ([] ++ pubL nx))⟩ pc0 pc0)], ⟨Jn, dj, nx⟩, pc0⟩, _, ?_, ?_, ⟨List.mem_cons_of_mem _ (pc_ch (pubL_len _) 2 rfl), List.mem_cons_of_mem _ ?_, fun v hv => ?_, List.mem_cons_of_mem _ (pc_ch HLX.out 0 rfl), List.mem_cons_self ..⟩, HS7.out.row (Below.refl _ _) (World.ownsRow_nil _ _ _ _)⟩
    ·rw [Tk.val_eq]
     simp only [pubL_len, HLX.out]
     rfl
    ·rfl
    ·have e : sgCells [(Sg.mk ⟨B, d, l⟩ ⟨Bp, dp, pubL nx⟩ ⟨Bg, dg, sigL y (l ++ ([] ++ pubL nx))⟩ pc0 pc0)] = [.slice B n d, .slice Bp 32 dp, .slice Bg 64 dg, .slice none 0 0, .slice none 0 0] := by
      show [Value.slice B l.length d, .slice Bp (pubL nx).length dp, .slice Bg (sigL y (l ++ ([] ++ pubL nx))).length dg, _, _] = _
      rw [HL.out, pubL_len, sigL_len]
      rfl
     rw [e]
     exact List.mem_of_getElem? (i := 1) rfl
    ·obtain rfl := List.mem_singleton.1 hv
     intro c hc
     simp only [Sg.chs, List.mem_cons, List.not_mem_nil, or_false] at hc
     rcases hc with rfl | rfl | rfl | rfl | rfl
     ·exact List.mem_cons_of_mem _ (pc_ch HL.out 8 rfl)
     ·exact List.mem_cons_of_mem _ (pc_ch (pubL_len _) 7 rfl)
     ·exact List.mem_cons_of_mem _ (pc_ch (sigL_len _ _) 4 rfl)
     ·exact List.mem_cons_self ..
     ·exact List.mem_cons_self ..
   ·refine wpS_call rfl rfl ?_; intro K hK; refine wp_call rfl enJoin23 rfl (join23_r1 _ HLX.out (by omega) (HA.out.rd 1 rfl) (HRX.out.below (HS.out.call HA.out.below).below)) ?_; rintro e wj ⟨Jn, dj, rfl, hb, ho⟩; refine ⟨_, rfl, ?_⟩; have HA := hide (HA.out.row hb ho); clear hb ho; refine hK _ _ (fromT_mk HA.out.below ?_); (try simp only [Act.put, nq1, nq2, nq3, nq4, nq5, nq6])
    refine wpS_call rfl rfl ?_; intro K hK; (show Oper.wp _ _ _ _ _ _); (unfold Oper.wp; go_simp); have HA := hide (HA.out.lit [.slice B n d, .slice Bp 32 dp, .slice Bg 64 dg, .slice none 0 0, .slice none 0 0] 32 5 1 rfl (by decide)); have hlb : _ = wj.heap.size := rfl; generalize World.alloc _ _ = ws at HA ⊢; refine hK _ _ (fromT_mk HA.out.below ?_); (try simp only [Act.put, nq1, nq2, nq3, nq4, nq5, nq6])
    (refine wpS_pure (v := ?_) rfl rfl ?_ ?_; rotate_left; (intro wx; go_simp; try go_bits) <;> (with_reducible rfl)); (try simp only [Act.put, nq1, nq2, nq3, nq4, nq5, nq6])
    have HJ := hide (HS.out.join HA.out)
    refine wpS_late rfl rfl ?_; intro K hK; refine wp_storeC rfl HJ.out 9 rfl (vs := [.slice Pr 32 dr, .slice (some ⟨wj.heap.size, 0, none⟩) 1 1, .slice Jn 32 dj, .slice none 0 0]) szToken (Nat.le_refl _) rfl rfl one4 ?_; intro wz hS9; have HS7 := hide hS9; clear hS9; refine hK _ _ ?_; (try simp only [Act.put, nq1, nq2, nq3, nq4, nq5, nq6])
    (refine wpS_pure (v := ?_) rfl rfl ?_ ?_; rotate_left; (intro wx; go_simp; try go_bits) <;> (with_reducible rfl)); (try simp only [Act.put, nq1, nq2, nq3, nq4, nq5, nq6])
    refine wpS_nil ?_
    go_wp2_with fail
    refine bodyPost_ret (results_cell_tmp_row rfl _ _ w.heap.size _ _ _ _ rfl (HS7.out.heap 9 rfl) Tryz.underlying26 rfl (by kernel_rfl)) rfl ?_
    refine ⟨⟨⟨Pr, dr, pubL y⟩, (some ⟨wj.heap.size, 0, none⟩), 1, [(Sg.mk ⟨B, d, l⟩ ⟨Bp, dp, pubL nx⟩ ⟨Bg, dg, sigL y (l ++ ([] ++ pubL nx))⟩ pc0 pc0)], ⟨Jn, dj, nx⟩, pc0⟩, _, ?_, ?_, ⟨List.mem_cons_of_mem _ (pc_ch (pubL_len _) 2 rfl), List.mem_cons_of_mem _ ?_, fun v hv => ?_, List.mem_cons_of_mem _ (pc_ch HLX.out 1 rfl), List.mem_cons_self ..⟩, HS7.out.row (Below.refl _ _) (World.ownsRow_nil _ _ _ _)⟩
    ·rw [Tk.val_eq]
     simp only [pubL_len, HLX.out]
     rfl
    ·rfl
    ·have e : sgCells [(Sg.mk ⟨B, d, l⟩ ⟨Bp, dp, pubL nx⟩ ⟨Bg, dg, sigL y (l ++ ([] ++ pubL nx))⟩ pc0 pc0)] = [.slice B n d, .slice Bp 32 dp, .slice Bg 64 dg, .slice none 0 0, .slice none 0 0] := by
      show [Value.slice B l.length d, .slice Bp (pubL nx).length dp, .slice Bg (sigL y (l ++ ([] ++ pubL nx))).length dg, _, _] = _
      rw [HL.out, pubL_len, sigL_len]
      rfl
     rw [e]
     exact List.mem_of_getElem? (i := 0) rfl
    ·obtain rfl := List.mem_singleton.1 hv
     intro c hc
     simp only [Sg.chs, List.mem_cons, List.not_mem_nil, or_false] at hc
     rcases hc with rfl | rfl | rfl | rfl | rfl
     ·exact List.mem_cons_of_mem _ (pc_ch HL.out 8 rfl)
     ·exact List.mem_cons_of_mem _ (pc_ch (pubL_len _) 7 rfl)
     ·exact List.mem_cons_of_mem _ (pc_ch (sigL_len _ _) 4 rfl)
     ·exact List.mem_cons_self ..
     ·exact List.mem_cons_self ..
  ·refine wpS_call rfl rfl ?_; intro K hK; (show Oper.wp _ _ _ _ _ _); (unfold Oper.wp; go_simp); have HA := hide (HA.out.lit [.slice B n d, .slice Bp 32 dp, .slice Bg 64 dg, .slice none 0 0, .slice none 0 0] 32 5 1 rfl (by decide)); have hlb : _ = wm.heap.size := rfl; generalize World.alloc _ _ = ws at HA ⊢; refine hK _ _ (fromT_mk HA.out.below ?_); (try simp only [Act.put, nq1, nq2, nq3, nq4, nq5, nq6])
   refine wpS_call rfl rfl ?_; intro K hK; refine wp_call rfl enPubR rfl (pubR_32 _ _ _ _ HLY.out (HRY.out.below (HS.out.call HA.out.below).below)) ?_; rintro e wp ⟨Pr, dr, rfl, hb, ho⟩; refine ⟨_, rfl, ?_⟩; have HA := hide (HA.out.row hb ho); clear hb ho; refine hK _ _ (fromT_mk HA.out.below ?_); (try simp only [Act.put, nq1, nq2, nq3, nq4, nq5, nq6])
   refine wpS_call rfl rfl ?_; intro K hK; refine wp_call rfl enJoin23 rfl (join23_r1 _ HLX.out (by omega) (HA.out.rd 2 rfl) (HRX.out.below (HS.out.call HA.out.below).below)) ?_; rintro e wj ⟨Jn, dj, rfl, hb, ho⟩; refine ⟨_, rfl, ?_⟩; have HA := hide (HA.out.row hb ho); clear hb ho; refine hK _ _ (fromT_mk HA.out.below ?_); (try simp only [Act.put, nq1, nq2, nq3, nq4, nq5, nq6])
   (refine wpS_pure (v := ?_) rfl rfl ?_ ?_; rotate_left; (intro wx; go_simp; try go_bits) <;> (with_reducible rfl)); (try simp only [Act.put, nq1, nq2, nq3, nq4, nq5, nq6])
   have HJ := hide (HS.out.join HA.out)
   refine wpS_late rfl rfl ?_; intro K hK; refine wp_storeC rfl HJ.out 9 rfl (vs := [.slice Pr 32 dr, .slice (some ⟨wm.heap.size, 0, none⟩) 1 1, .slice Jn 32 dj, .slice none 0 0]) szToken (Nat.le_refl _) rfl rfl one4 ?_; intro wz hS9; have HS7 := hide hS9; clear hS9; refine hK _ _ ?_; (try simp only [Act.put, nq1, nq2, nq3, nq4, nq5, nq6])
   (refine wpS_pure (v := ?_) rfl rfl ?_ ?_; rotate_left; (intro wx; go_simp; try go_bits) <;> (with_reducible rfl)); (try simp only [Act.put, nq1, nq2, nq3, nq4, nq5, nq6])
   refine wpS_nil ?_
   go_wp2_with fail
   refine bodyPost_ret (results_cell_tmp_row rfl _ _ w.heap.size _ _ _ _ rfl (HS7.out.heap 9 rfl) Tryz.underlying26 rfl (by kernel_rfl)) rfl ?_
   refine ⟨⟨⟨Pr, dr, pubL y⟩, (some ⟨wm.heap.size, 0, none⟩), 1, [(Sg.mk ⟨B, d, l⟩ ⟨Bp, dp, pubL nx⟩ ⟨Bg, dg, sigL y (l ++ ([] ++ pubL nx))⟩ pc0 pc0)], ⟨Jn, dj, nx⟩, pc0⟩, _, ?_, ?_, ⟨List.mem_cons_of_mem _ (pc_ch (pubL_len _) 1 rfl), List.mem_cons_of_mem _ ?_, fun v hv => ?_, List.mem_cons_of_mem _ (pc_ch HLX.out 0 rfl), List.mem_cons_self ..⟩, HS7.out.row (Below.refl _ _) (World.ownsRow_nil _ _ _ _)⟩
   ·rw [Tk.val_eq]
    simp only [pubL_len, HLX.out]
    rfl
   ·rfl
   ·have e : sgCells [(Sg.mk ⟨B, d, l⟩ ⟨Bp, dp, pubL nx⟩ ⟨Bg, dg, sigL y (l ++ ([] ++ pubL nx))⟩ pc0 pc0)] = [.slice B n d, .slice Bp 32 dp, .slice Bg 64 dg, .slice none 0 0, .slice none 0 0] := by
     show [Value.slice B l.length d, .slice Bp (pubL nx).length dp, .slice Bg (sigL y (l ++ ([] ++ pubL nx))).length dg, _, _] = _
     rw [HL.out, pubL_len, sigL_len]
     rfl
    rw [e]
    exact List.mem_of_getElem? (i := 2) rfl
   ·obtain rfl := List.mem_singleton.1 hv
    intro c hc
    simp only [Sg.chs, List.mem_cons, List.not_mem_nil, or_false] at hc
    rcases hc with rfl | rfl | rfl | rfl | rfl
    ·exact List.mem_cons_of_mem _ (pc_ch HL.out 8 rfl)
    ·exact List.mem_cons_of_mem _ (pc_ch (pubL_len _) 7 rfl)
    ·exact List.mem_cons_of_mem _ (pc_ch (sigL_len _ _) 4 rfl)
    ·exact List.mem_cons_self ..
    ·exact List.mem_cons_self ..
end Go.Proofs.YtnohmgpmmhlloaaGreatDoor

namespace Go.Proofs.YtnohmgpmmhlloaaGreatDoor
open Go.RowKit
set_option linter.unusedSimpArgs false
def TkH (H : List Chunk) (w : World) (r : Rz) (e : Ending) (w' : World) : Prop := ∃ (t : Tk) (G : List Chunk), e = .returned (.tuple #[t.val, .int .i64 (r.c : Int)]) ∧ t.p = r.p ∧ TkIn (G ++ H) t ∧ St w NoB w' G
theorem tkH_no {H : List Chunk} {w : World} {c : Nat} {e : Ending} {w' : World} (h : TkE w (c : Int) e w') : TkH H w ⟨c, tp0⟩ e w' := by
 obtain ⟨t, G, h1, h2, h3, h4⟩ := tkQ_no h
 exact ⟨t, G, h1, h2, h3.mono (fun c hc => List.mem_append_left _ hc), h4⟩
theorem appR_bad1 (A1 A2 A3 A Ax E1 E2 E3 : Option Addr) (m1 m2 m3 n n1 n4 n5 c1 c2 c3 c cx f1 f4 f5 nx : Nat) (w : World) (hne : nx ≠ 32) :
  Calls Tryz.prog 18 #[.agg #[.slice A1 m1 c1, .slice A n c, .slice A2 m2 c2, .slice A3 m3 c3], .slice Ax nx cx, .slice E1 n1 f1, .slice E2 n4 f4, .slice E3 n5 f5] w (TkE w 1) := by
 have hS0 := ((St.init w NoB).alloc #[.slice A1 m1 c1, .slice A n c, .slice A2 m2 c2, .slice A3 m3 c3] 26).alloc #[.slice none 0 0, .slice none 0 0, .slice none 0 0, .slice none 0 0] 26
 rw [size_alloc1] at hS0
 have HS := hide hS0
 clear hS0
 have t1 : _ = some (Value.slice A n c) := HS.out.cell 1 rfl 1
 have t2 : _ = some (Value.slice A2 m2 c2) := HS.out.cell 1 rfl 2
 go_enter Tryz.func18, Tryz.ntmps18
 go_wp2_with (first
  | (refine wl_storeC rfl rfl HS.out 0 rfl (vs := [.slice none 0 0, .slice none 0 0, .slice none 0 0, .slice none 0 0]) szToken (Nat.le_refl _) rfl rfl one4 ?_; intro w7 hS7; have HS7 := hide hS7; clear hS7)
  | (go_at_call 44; (with_reducible refine (seed23_no _ _ _ _ hne).mono ?_); rintro e wy ⟨rfl, rfl⟩))
 refine bodyPost_ret (results_cell_tmp_row rfl _ _ (w.heap.size + 1) _ _ _ _ rfl (HS7.out.heap 0 rfl) Tryz.underlying26 rfl (by kernel_rfl)) rfl ?_
 exact ⟨rfl, HS7.out.below⟩
theorem appR_bad3 (A1 A2 A3 A Ax E1 E2 E3 : Option Addr) (m1 m2 m3 n1 n4 n5 c1 c2 c3 c cx f1 f4 f5 : Nat) (w : World) (hn1 : n1 ≤ 65536) :
  Calls Tryz.prog 18 #[.agg #[.slice A1 m1 c1, .slice A 0 c, .slice A2 m2 c2, .slice A3 m3 c3], .slice Ax 32 cx, .slice E1 n1 f1, .slice E2 n4 f4, .slice E3 n5 f5] w (TkE w 1) := by
 have hS0 := ((St.init w NoB).alloc #[.slice A1 m1 c1, .slice A 0 c, .slice A2 m2 c2, .slice A3 m3 c3] 26).alloc #[.slice none 0 0, .slice none 0 0, .slice none 0 0, .slice none 0 0] 26
 rw [size_alloc1] at hS0
 have HS := hide hS0
 clear hS0
 have t1 : _ = some (Value.slice A 0 c) := HS.out.cell 1 rfl 1
 have t2 : _ = some (Value.slice A2 m2 c2) := HS.out.cell 1 rfl 2
 have d1 : decide ((65536 : Int) < (n1 : Int)) = false := by simp; omega
 go_enter Tryz.func18, Tryz.ntmps18
 go_wp2_with (first
  | (refine wl_storeC rfl rfl HS.out 0 rfl (vs := [.slice none 0 0, .slice none 0 0, .slice none 0 0, .slice none 0 0]) szToken (Nat.le_refl _) rfl rfl one4 ?_; intro w7 hS7; have HS7 := hide hS7; clear hS7)
  | (go_at_call 44; (with_reducible refine (seed23_yes _ _ _).mono ?_); rintro e wy ⟨rfl, rfl⟩))
 refine bodyPost_ret (results_cell_tmp_row rfl _ _ (w.heap.size + 1) _ _ _ _ rfl (HS7.out.heap 0 rfl) Tryz.underlying26 rfl (by kernel_rfl)) rfl ?_
 exact ⟨rfl, HS7.out.below⟩
theorem appR_bad4 (A1 A2 A3 A Ax E1 E2 E3 : Option Addr) (m1 m2 m3 n n1 n4 n5 c1 c2 c3 c cx f1 f4 f5 : Nat) (w : World) (hn1 : n1 ≤ 65536) (hn : 0 < n) (hne : m2 ≠ 32) :
  Calls Tryz.prog 18 #[.agg #[.slice A1 m1 c1, .slice A n c, .slice A2 m2 c2, .slice A3 m3 c3], .slice Ax 32 cx, .slice E1 n1 f1, .slice E2 n4 f4, .slice E3 n5 f5] w (TkE w 13) := by
 have hS0 := ((St.init w NoB).alloc #[.slice A1 m1 c1, .slice A n c, .slice A2 m2 c2, .slice A3 m3 c3] 26).alloc #[.slice none 0 0, .slice none 0 0, .slice none 0 0, .slice none 0 0] 26
 rw [size_alloc1] at hS0
 have HS := hide hS0
 clear hS0
 have t1 : _ = some (Value.slice A n c) := HS.out.cell 1 rfl 1
 have t2 : _ = some (Value.slice A2 m2 c2) := HS.out.cell 1 rfl 2
 have d1 : decide ((65536 : Int) < (n1 : Int)) = false := by simp; omega
 have d2 : ((n : Int) == 0) = false := by simp; omega
 have d2' : decide ((n : Int) = 0) = false := by simp; omega
 go_enter Tryz.func18, Tryz.ntmps18
 go_wp2_with (first
  | (refine wl_storeC rfl rfl HS.out 0 rfl (vs := [.slice none 0 0, .slice none 0 0, .slice none 0 0, .slice none 0 0]) szToken (Nat.le_refl _) rfl rfl one4 ?_; intro w7 hS7; have HS7 := hide hS7; clear hS7)
  | (go_at_call 44; (with_reducible refine (seed23_yes _ _ _).mono ?_); rintro e wy ⟨rfl, rfl⟩)
  | (go_at_call 44; (with_reducible refine (seed23_no _ _ _ _ hne).mono ?_); rintro e wy ⟨rfl, rfl⟩))
 refine bodyPost_ret (results_cell_tmp_row rfl _ _ (w.heap.size + 1) _ _ _ _ rfl (HS7.out.heap 0 rfl) Tryz.underlying26 rfl (by kernel_rfl)) rfl ?_
 exact ⟨rfl, HS7.out.below⟩
theorem appR_bad5 (A1 A2 A3 A Ax E1 E2 E3 : Option Addr) (m1 m3 n n1 n4 n5 c1 c2 c3 c cx f1 f4 f5 : Nat) (w : World) (hn1 : n1 ≤ 65536) (hn : 8 ≤ n) :
  Calls Tryz.prog 18 #[.agg #[.slice A1 m1 c1, .slice A n c, .slice A2 32 c2, .slice A3 m3 c3], .slice Ax 32 cx, .slice E1 n1 f1, .slice E2 n4 f4, .slice E3 n5 f5] w (TkE w 4) := by
 have hS0 := ((St.init w NoB).alloc #[.slice A1 m1 c1, .slice A n c, .slice A2 32 c2, .slice A3 m3 c3] 26).alloc #[.slice none 0 0, .slice none 0 0, .slice none 0 0, .slice none 0 0] 26
 rw [size_alloc1] at hS0
 have HS := hide hS0
 clear hS0
 have t1 : _ = some (Value.slice A n c) := HS.out.cell 1 rfl 1
 have t2 : _ = some (Value.slice A2 32 c2) := HS.out.cell 1 rfl 2
 have d1 : decide ((65536 : Int) < (n1 : Int)) = false := by simp; omega
 have d2 : ((n : Int) == 0) = false := by simp; omega
 have d2' : decide ((n : Int) = 0) = false := by simp; omega
 have d3 : decide ((8 : Int) ≤ (n : Int)) = true := by simp; omega
 go_enter Tryz.func18, Tryz.ntmps18
 go_wp2_with (first
  | (refine wl_storeC rfl rfl HS.out 0 rfl (vs := [.slice none 0 0, .slice none 0 0, .slice none 0 0, .slice none 0 0]) szToken (Nat.le_refl _) rfl rfl one4 ?_; intro w7 hS7; have HS7 := hide hS7; clear hS7)
  | (go_at_call 44; (with_reducible refine (seed23_yes _ _ _).mono ?_); rintro e wy ⟨rfl, rfl⟩))
 refine bodyPost_ret (results_cell_tmp_row rfl _ _ (w.heap.size + 1) _ _ _ _ rfl (HS7.out.heap 0 rfl) Tryz.underlying26 rfl (by kernel_rfl)) rfl ?_
 exact ⟨rfl, HS7.out.below⟩
theorem appR_ok (H : List Chunk) (A1 A2 A3 A Ax E1 E4 E5 : Option Addr) (m1 m3 n n1 n4 n5 c1 c2 c3 c cx f1 f4 f5 : Nat) (l1 l2 l3 nx : List UInt8) (l : List Sg) (y1 y4 y5 : List UInt8) (w : World) (hl2 : l2.length = 32) (hl : l.length = n) (hn0 : 0 < n) (hn : n < 8) (hx : nx.length = 32) (hg1 : y1.length = n1) (hg4 : y4.length = n4) (hg5 : y5.length = n5) (hn1 : n1 ≤ 1000) (hn4 : n4 ≤ 900) (hn5 : n5 ≤ 900)
  (hr1 : Rd w (.slice A1 m1 c1) 1 m1 (bvs l1)) (hr2 : Rd w (.slice A2 32 c2) 1 32 (bvs l2)) (hr3 : Rd w (.slice A3 m3 c3) 1 m3 (bvs l3)) (hr : Rd w (.slice A n c) 5 n (sgCells l)) (hrx : Rd w (.slice Ax 32 cx) 1 32 (bvs nx)) (he1 : Rd w (.slice E1 n1 f1) 1 n1 (bvs y1)) (he4 : Rd w (.slice E4 n4 f4) 1 n4 (bvs y4)) (he5 : Rd w (.slice E5 n5 f5) 1 n5 (bvs y5))
  (hl1 : l1.length = m1) (hl3 : l3.length = m3) (hin : TkIn H ⟨⟨A1, c1, l1⟩, A, c, l, ⟨A2, c2, l2⟩, ⟨A3, c3, l3⟩⟩) :
  Calls Tryz.prog 18 #[.agg #[.slice A1 m1 c1, .slice A n c, .slice A2 32 c2, .slice A3 m3 c3], .slice Ax 32 cx, .slice E1 n1 f1, .slice E4 n4 f4, .slice E5 n5 f5] w (TkH H w ⟨0, addK ⟨l1, l.map Sg.p, l2, l3⟩ nx ⟨y1, [], [], y4, y5⟩⟩) := by
 have HLM := hide (len_add3 hg1 hg5 (pubL_len nx))
 have hS0 := ((St.init w NoB).alloc #[.slice A1 m1 c1, .slice A n c, .slice A2 32 c2, .slice A3 m3 c3] 26).alloc #[.slice none 0 0, .slice none 0 0, .slice none 0 0, .slice none 0 0] 26
 rw [size_alloc1] at hS0
 have HS := hide hS0
 clear hS0
 have HL1 := hide hl1
 have HL2 := hide hl2
 have HL3 := hide hl3
 have HL := hide hl
 have HX := hide hx
 have HG1 := hide hg1
 have HG4 := hide hg4
 have HG5 := hide hg5
 have HR1 := hide hr1
 have HR2 := hide hr2
 have HR3 := hide hr3
 have HR := hide hr
 have HRX := hide hrx
 have HE1 := hide he1
 have HE4 := hide he4
 have HE5 := hide he5
 have HIN := hide hin
 clear hl1 hl2 hl3 hl hx hg1 hg4 hg5 hr1 hr2 hr3 hr hrx he1 he4 he5 hin
 have d1 : decide ((65536 : Int) < (n1 : Int)) = false := by simp; omega
 have d2 : ((n : Int) == 0) = false := by simp; omega
 have d2' : decide ((n : Int) = 0) = false := by simp; omega
 have d3 : decide ((8 : Int) ≤ (n : Int)) = false := by simp; omega
 have t1 : _ = some (Value.slice A n c) := HS.out.cell 1 rfl 1
 have t2 : _ = some (Value.slice A2 32 c2) := HS.out.cell 1 rfl 2
 go_enter Tryz.func18, Tryz.ntmps18
 go_upto_region 7 with (go_at_call 44; (with_reducible refine (seed23_yes _ _ _).mono ?_); rintro e wy ⟨rfl, rfl⟩)
 generalize World.alloc (World.alloc w _) _ = wb at HS t1 t2 ⊢
 have M0 := True.intro
 go_upto_region 8 with (first
  | (clear M4; refine wl_storeC rfl rfl (HS.out.alloc _ _) 0 rfl (vs := [.slice B n1 d, .slice Bp 32 dp, .slice none 0 0, .slice Bk n4 dk, .slice Bv n5 dv]) szSigned (Nat.le_refl _) rfl rfl one5 ?_; intro w5 hS7; have HS := hide hS7; clear hS7; have M5 := True.intro)
  | (clear M3; go_at_call 45; (with_reducible refine (join23_1 _ HG5.out (by omega) (HE5.out.below HS.out.below)).mono ?_); rintro e w4 ⟨Bv, dv, rfl, hb, ho⟩; have HS := hide ((HS.out.skip _).row hb ho); clear ho hb; have M4 := True.intro)
  | (clear M2; go_at_call 45; (with_reducible refine (join23_1 _ HG4.out (by omega) (HE4.out.below HS.out.below)).mono ?_); rintro e w3 ⟨Bk, dk, rfl, hb, ho⟩; have HS := hide ((HS.out.skip _).row hb ho); clear ho hb; have M3 := True.intro)
  | (clear M1; go_at_call 46; (with_reducible refine (pubR_32 _ _ _ _ HX.out (HRX.out.below HS.out.below)).mono ?_); rintro e w2 ⟨Bp, dp, rfl, hb, ho⟩; have HS := hide (HS.out.row hb ho); clear ho hb; have M2 := True.intro)
  | (clear M0; go_at_call 45; (with_reducible refine (join23_1 _ HG1.out (by omega) (HE1.out.below HS.out.below)).mono ?_); rintro e w1 ⟨B, d, rfl, hb, ho⟩; have HS := hide ((HS.out.skip _).row hb ho); clear ho hb; have M1 := True.intro))
 have HS : Hid (St w NoB w5 [.cells w4.heap.size #[.slice B n1 d, .slice Bp 32 dp, .slice none 0 0, .slice Bk n4 dk, .slice Bv n5 dv] 32, .row (.slice Bv n5 dv) 5 1 n5 (bvs y5), .row (.slice Bk n4 dk) 5 1 n4 (bvs y4), .row (.slice Bp 32 dp) 5 1 32 (bvs (pubL nx)), .row (.slice B n1 d) 5 1 n1 (bvs y1), .cells (w.heap.size + 1) #[.slice none 0 0, .slice none 0 0, .slice none 0 0, .slice none 0 0] 26, .cells w.heap.size #[.slice A1 m1 c1, .slice A n c, .slice A2 32 c2, .slice A3 m3 c3] 26]) := HS
 clear t1 t2
 refine wp_region_T [(0, 1), (1, 0), (2, 0), (3, 2), (4, 2), (5, 1), (6, 3)] (by kernel_rfl) (by kernel_rfl) (fun _ _ _ _ h => h) ?_
 have HS := hide HS.out.drew
 generalize w5.drew = w6 at HS ⊢
 have t2 : _ = some (Value.slice A2 32 c2) := HS.out.cell 6 rfl 2
 have s0 : _ = some (Value.slice B n1 d) := HS.out.cell 0 rfl 0
 have s1 : _ = some (Value.slice Bp 32 dp) := HS.out.cell 0 rfl 1
 have s2 : _ = some (Value.slice none 0 0) := HS.out.cell 0 rfl 2
 have s3 : _ = some (Value.slice Bk n4 dk) := HS.out.cell 0 rfl 3
 have s4 : _ = some (Value.slice Bv n5 dv) := HS.out.cell 0 rfl 4
 have M0 := True.intro
 go_upto_region 9 with (first
  | (clear M1; go_at_call 47; (with_reducible refine (signR_32 _ _ _ _ _ _ _ _ HL2.out HLM.out (by omega) (HR2.out.below HS.out.below) (HS.out.rd 0 rfl)).mono ?_); rintro e w8 ⟨Bg, dg, rfl, hb, ho⟩; have HS := hide (HS.out.row hb ho); have q2 : _ = some (Value.slice none 0 0) := HS.out.cell 2 rfl 2; have g2 := HS.out.free 2 rfl 2; clear ho; have M2 := True.intro)
  | (clear M0; go_at_call 48; (with_reducible refine (message23_core _ _ _ _ _ _ _ _ _ _ _ _ _ _ _ _ _ _ _ _ _ HG1.out (by omega) (HS.out.rd 4 rfl) (pubL_len _) (by omega) (HS.out.rd 3 rfl) nil_len8 (by omega) (rd_nil _ 1) HG4.out (by omega) (HS.out.rd 2 rfl) HG5.out (by omega) (HS.out.rd 1 rfl)).mono ?_); rintro e w7 ⟨Bm, dm, rfl, hb, ho⟩; have HS := hide (HS.out.row hb ho); clear ho; have M1 := True.intro)
  | (refine wpT_nil ?_)   | ((with_reducible refine fromT_refl ?_); (try simp only [Act.put, nq1, nq2, nq3, nq4, nq5, nq6]))   | ((with_reducible refine fromT_mk (by assumption) ?_); (try simp only [Act.put, nq1, nq2, nq3, nq4, nq5, nq6]))   | (refine wpT_pure (v := ?_) rfl rfl ?_ ?_; rotate_left; (intro wx; go_simp; try go_bits) <;> (with_reducible rfl); (try simp only [Act.put, nq1, nq2, nq3, nq4, nq5, nq6]))   | (refine wpT_load (v := ?_) rfl rfl rfl ?_ ?_; rotate_left; (go_simp; try go_bits) <;> (with_reducible rfl); (try simp only [Act.put, nq1, nq2, nq3, nq4, nq5, nq6]))   | (refine wpT_read (v := ?_) rfl rfl ?_ ?_; rotate_left; (intro wx hx; go_simp; try go_bits) <;> (with_reducible rfl); (try simp only [Act.put, nq1, nq2, nq3, nq4, nq5, nq6]))   | (refine wpT_call rfl rfl ?_; intro K hK)   | (refine wpT_late rfl rfl ?_; intro K hK)   | (refine wpT_any rfl rfl ?_; intro K hK)   | (refine wpT_skip rfl rfl ?_; (try simp only [Act.put, nq1, nq2, nq3, nq4, nq5, nq6])))
 have HS := hide (HS.out.setCell 2 rfl 2 (.slice Bg 64 dg))
 clear q2 g2 t2 s0 s1 s2 s3 s4 hb
 generalize World.setCell w8 _ _ = w9 at HS ⊢
 have HS : Hid (St w NoB w9 [.row (.slice Bg 64 dg) 5 1 64 (bvs (sigL l2 (y1 ++ (y5 ++ pubL nx)))), .row (.slice Bm (n1 + (n5 + 32)) dm) 5 1 (n1 + (n5 + 32)) (bvs (y1 ++ (y5 ++ pubL nx))), .cells w4.heap.size #[.slice B n1 d, .slice Bp 32 dp, .slice Bg 64 dg, .slice Bk n4 dk, .slice Bv n5 dv] 32, .row (.slice Bv n5 dv) 5 1 n5 (bvs y5), .row (.slice Bk n4 dk) 5 1 n4 (bvs y4), .row (.slice Bp 32 dp) 5 1 32 (bvs (pubL nx)), .row (.slice B n1 d) 5 1 n1 (bvs y1), .cells (w.heap.size + 1) #[.slice none 0 0, .slice none 0 0, .slice none 0 0, .slice none 0 0] 26, .cells w.heap.size #[.slice A1 m1 c1, .slice A n c, .slice A2 32 c2, .slice A3 m3 c3] 26]) := HS
 refine wp_region_S (.op 0 1 (.op 1 0 (.op 3 0 (.two 2 4 (.op 4 2 (.op 5 2 (.op 6 1 (.op 7 3 (.nil))))) (.op 2 2 (.op 5 2 (.op 6 1 (.op 7 3 (.nil))))))))) (by kernel_rfl) (by kernel_rfl) (fun _ _ _ _ h => h) ?_
 have HS := hide HS.out.drew
 generalize w9.drew = wa at HS ⊢
 have t1 : _ = some (Value.slice A n c) := HS.out.cell 8 rfl 1
 have s0 : _ = some (Value.slice B n1 d) := HS.out.cell 2 rfl 0
 have s1 : _ = some (Value.slice Bp 32 dp) := HS.out.cell 2 rfl 1
 have s2 : _ = some (Value.slice Bg 64 dg) := HS.out.cell 2 rfl 2
 have s3 : _ = some (Value.slice Bk n4 dk) := HS.out.cell 2 rfl 3
 have s4 : _ = some (Value.slice Bv n5 dv) := HS.out.cell 2 rfl 4
 have HA := hide (St.init wa NoB)
 (refine wpS_pure (v := ?_) rfl rfl ?_ ?_; rotate_left; (intro wx; go_simp; try go_bits) <;> (with_reducible rfl)); (try simp only [Act.put, nq1, nq2, nq3, nq4, nq5, nq6])
 (refine wpS_load (v := ?_) rfl rfl rfl ?_ ?_; rotate_left; (go_simp; try go_bits) <;> (with_reducible rfl)); (try simp only [Act.put, nq1, nq2, nq3, nq4, nq5, nq6])
 (refine wpS_load (v := ?_) rfl rfl rfl ?_ ?_; rotate_left; (go_simp; try go_bits) <;> (with_reducible rfl)); (try simp only [Act.put, nq1, nq2, nq3, nq4, nq5, nq6])
 refine wpS_two ?_ ?_
 ·refine wpS_call rfl rfl ?_; intro K hK; refine wp_append rfl tySg (HA.out.row (Below.refl _ _) (World.ownsRow_nil _ _ _ _)) 0 rfl rfl rfl (HR.out.below (HS.out.call HA.out.below).below) (sgCells_one l) (by omega) (by decide) ?_; intro A7 c7 w7a hS7; simp only [Nat.zero_add, List.nil_append, List.set_cons_zero] at hS7 ⊢; have HA := hide hS7; clear hS7; refine hK _ _ (fromT_mk HA.out.below ?_); (try simp only [Act.put, nq1, nq2, nq3, nq4, nq5, nq6])
  refine wpS_call rfl rfl ?_; intro K hK; (show Oper.wp _ _ _ _ _ _); (unfold Oper.wp; go_simp); have HA := hide (HA.out.lit [.slice B n1 d, .slice Bp 32 dp, .slice Bg 64 dg, .slice Bk n4 dk, .slice Bv n5 dv] 32 5 1 rfl (by decide)); generalize World.alloc _ _ = wl at HA ⊢; refine hK _ _ (fromT_mk HA.out.below ?_); (try simp only [Act.put, nq1, nq2, nq3, nq4, nq5, nq6])
  refine wpS_call rfl rfl ?_; intro K hK; refine wp_append rfl tySg HA.out 1 rfl rfl rfl (HA.out.rd 0 rfl) one5 (by omega) (by decide) ?_; intro A9 c9 w9a hS7; have HA := hide hS7; clear hS7; refine hK _ _ (fromT_mk HA.out.below ?_); (try simp only [Act.put, nq1, nq2, nq3, nq4, nq5, nq6])
  (refine wpS_pure (v := ?_) rfl rfl ?_ ?_; rotate_left; (intro wx; go_simp; try go_bits) <;> (with_reducible rfl)); (try simp only [Act.put, nq1, nq2, nq3, nq4, nq5, nq6])
  have HS := hide (HS.out.join HA.out)
  clear t1 s0 s1 s2 s3 s4 HA
  have q1 : _ = some (Value.slice A n c) := HS.out.cell 10 rfl 1
  have g1 := HS.out.free 10 rfl 1
  refine wpS_late rfl rfl ?_; intro K hK; (show Oper.wp _ _ _ _ _ _); (unfold Oper.wp; go_simp); refine hK _ _ ?_; (try simp only [Act.put, nq1, nq2, nq3, nq4, nq5, nq6])
  refine wpS_nil ?_
  have HS := hide (HS.out.setCell 10 rfl 1 (.slice A9 (n + 1) c9))
  clear q1 g1
  generalize World.setCell w9a _ _ = wc at HS ⊢
  have HC := hide (show sgCells (l ++ [(Sg.mk (PcV.mk B d y1) (PcV.mk Bp dp (pubL nx)) (PcV.mk Bg dg (sigL l2 (y1 ++ (y5 ++ pubL nx)))) (PcV.mk Bk dk y4) (PcV.mk Bv dv y5))]) = sgCells l ++ [.slice B n1 d, .slice Bp 32 dp, .slice Bg 64 dg, .slice Bk n4 dk, .slice Bv n5 dv] by
   rw [sgCells_app]
   show _ ++ [Value.slice B y1.length d, .slice Bp (pubL nx).length dp, .slice Bg (sigL l2 (y1 ++ (y5 ++ pubL nx))).length dg, .slice Bk y4.length dk, .slice Bv y5.length dv] = _
   rw [HG1.out, HG4.out, HG5.out, pubL_len, sigL_len])
  rw [← HC.out] at HS
  have HLZ := hide (show (l ++ [(Sg.mk (PcV.mk B d y1) (PcV.mk Bp dp (pubL nx)) (PcV.mk Bg dg (sigL l2 (y1 ++ (y5 ++ pubL nx)))) (PcV.mk Bk dk y4) (PcV.mk Bv dv y5))]).length = n + 1 by rw [List.length_append, HL.out]; rfl)
  go_upto_region 11 with (go_at_call 45; (with_reducible refine (join23_1 _ HX.out (by omega) (HRX.out.below HS.out.below)).mono ?_); rintro e wv ⟨Jn, dj, rfl, hb2, ho⟩; have HS := hide ((HS.out.skip _).row hb2 ho); have q2 : _ = some (Value.slice A2 32 c2) := HS.out.cell 11 rfl 2; have g2 := HS.out.free 11 rfl 2; clear ho hb2)
  have HS := hide (HS.out.setCell 11 rfl 2 (.slice Jn 32 dj))
  generalize World.setCell wv _ _ = wd at HS ⊢
  clear q2 g2
  have t0 : _ = some (Value.slice A1 m1 c1) := HS.out.cell 11 rfl 0
  have t1 : _ = some (Value.slice A9 (n + 1) c9) := HS.out.cell 11 rfl 1
  have t2 : _ = some (Value.slice Jn 32 dj) := HS.out.cell 11 rfl 2
  have t3 : _ = some (Value.slice A3 m3 c3) := HS.out.cell 11 rfl 3
  go_wp2_with (refine wl_storeC rfl rfl HS.out 10 rfl (vs := [.slice A1 m1 c1, .slice A9 (n + 1) c9, .slice Jn 32 dj, .slice A3 m3 c3]) szToken (Nat.le_refl _) rfl rfl one4 ?_; intro wz hS9; have HS7 := hide hS9; clear hS9)
  refine bodyPost_ret (results_cell_tmp_row rfl _ _ (w.heap.size + 1) _ _ _ _ rfl (HS7.out.heap 10 rfl) Tryz.underlying26 rfl (by kernel_rfl)) rfl ?_
  refine ⟨⟨⟨A1, c1, l1⟩, A9, c9, l ++ [(Sg.mk (PcV.mk B d y1) (PcV.mk Bp dp (pubL nx)) (PcV.mk Bg dg (sigL l2 (y1 ++ (y5 ++ pubL nx)))) (PcV.mk Bk dk y4) (PcV.mk Bv dv y5))], ⟨Jn, dj, nx⟩, ⟨A3, c3, l3⟩⟩, _, ?_, ?_, ⟨List.mem_append_right _ HIN.out.r, List.mem_append_left _ ?_, fun v hv => ?_, List.mem_append_left _ (pc_ch HX.out 0 rfl), List.mem_append_right _ HIN.out.z⟩, HS7.out⟩
  ·rw [Tk.val_eq]
   simp only [HL1.out, HLZ.out, HX.out, HL3.out]
   rfl
  ·show Tp.mk l1 (List.map Sg.p (l ++ _)) nx l3 = _
   unfold addK
   rw [List.map_append]
   rfl
  ·show Chunk.row (.slice A9 (l ++ _).length c9) _ 5 (l ++ _).length _ ∈ _
   rw [HLZ.out]
   exact List.mem_of_getElem? (i := 2) rfl
  ·rcases List.mem_append.1 hv with h | h
   ·intro c hc
    exact List.mem_append_right _ (HIN.out.l v h c hc)
   ·rw [List.mem_singleton.1 h]
    intro c hc
    refine List.mem_append_left _ ?_
    simp only [Sg.chs, List.mem_cons, List.not_mem_nil, or_false] at hc
    rcases hc with rfl | rfl | rfl | rfl | rfl
    ·exact pc_ch HG1.out 9 rfl
    ·exact pc_ch (pubL_len _) 8 rfl
    ·exact pc_ch (sigL_len _ _) 3 rfl
    ·exact pc_ch HG4.out 7 rfl
    ·exact pc_ch HG5.out 6 rfl
 ·refine wpS_call rfl rfl ?_; intro K hK; (show Oper.wp _ _ _ _ _ _); (unfold Oper.wp; go_simp); have HA := hide (HA.out.lit [.slice B n1 d, .slice Bp 32 dp, .slice Bg 64 dg, .slice Bk n4 dk, .slice Bv n5 dv] 32 5 1 rfl (by decide)); generalize World.alloc _ _ = wl at HA ⊢; refine hK _ _ (fromT_mk HA.out.below ?_); (try simp only [Act.put, nq1, nq2, nq3, nq4, nq5, nq6])
  refine wpS_call rfl rfl ?_; intro K hK; refine wp_append rfl tySg (HA.out.row (Below.refl _ _) (World.ownsRow_nil _ _ _ _)) 0 rfl rfl rfl (HR.out.below (HS.out.call HA.out.below).below) (sgCells_one l) (by omega) (by decide) ?_; intro A7 c7 w7a hS7; simp only [Nat.zero_add, List.nil_append, List.set_cons_zero] at hS7 ⊢; have HA := hide hS7; clear hS7; refine hK _ _ (fromT_mk HA.out.below ?_); (try simp only [Act.put, nq1, nq2, nq3, nq4, nq5, nq6])
  refine wpS_call rfl rfl ?_; intro K hK; refine wp_append rfl tySg HA.out 0 rfl rfl rfl (HA.out.rd 1 rfl) one5 (by omega) (by decide) ?_; intro A9 c9 w9a hS7; have HA := hide hS7; clear hS7; refine hK _ _ (fromT_mk HA.out.below ?_); (try simp only [Act.put, nq1, nq2, nq3, nq4, nq5, nq6])
  (refine wpS_pure (v := ?_) rfl rfl ?_ ?_; rotate_left; (intro wx; go_simp; try go_bits) <;> (with_reducible rfl)); (try simp only [Act.put, nq1, nq2, nq3, nq4, nq5, nq6])
  have HS := hide (HS.out.join HA.out)
  clear t1 s0 s1 s2 s3 s4 HA
  have q1 : _ = some (Value.slice A n c) := HS.out.cell 10 rfl 1
  have g1 := HS.out.free 10 rfl 1
  refine wpS_late rfl rfl ?_; intro K hK; (show Oper.wp _ _ _ _ _ _); (unfold Oper.wp; go_simp); refine hK _ _ ?_; (try simp only [Act.put, nq1, nq2, nq3, nq4, nq5, nq6])
  refine wpS_nil ?_
  have HS := hide (HS.out.setCell 10 rfl 1 (.slice A9 (n + 1) c9))
  clear q1 g1
  generalize World.setCell w9a _ _ = wc at HS ⊢
  have HC := hide (show sgCells (l ++ [(Sg.mk (PcV.mk B d y1) (PcV.mk Bp dp (pubL nx)) (PcV.mk Bg dg (sigL l2 (y1 ++ (y5 ++ pubL nx)))) (PcV.mk Bk dk y4) (PcV.mk Bv dv y5))]) = sgCells l ++ [.slice B n1 d, .slice Bp 32 dp, .slice Bg 64 dg, .slice Bk n4 dk, .slice Bv n5 dv] by
   rw [sgCells_app]
   show _ ++ [Value.slice B y1.length d, .slice Bp (pubL nx).length dp, .slice Bg (sigL l2 (y1 ++ (y5 ++ pubL nx))).length dg, .slice Bk y4.length dk, .slice Bv y5.length dv] = _
   rw [HG1.out, HG4.out, HG5.out, pubL_len, sigL_len])
  rw [← HC.out] at HS
  have HLZ := hide (show (l ++ [(Sg.mk (PcV.mk B d y1) (PcV.mk Bp dp (pubL nx)) (PcV.mk Bg dg (sigL l2 (y1 ++ (y5 ++ pubL nx)))) (PcV.mk Bk dk y4) (PcV.mk Bv dv y5))]).length = n + 1 by rw [List.length_append, HL.out]; rfl)
  go_upto_region 11 with (go_at_call 45; (with_reducible refine (join23_1 _ HX.out (by omega) (HRX.out.below HS.out.below)).mono ?_); rintro e wv ⟨Jn, dj, rfl, hb2, ho⟩; have HS := hide ((HS.out.skip _).row hb2 ho); have q2 : _ = some (Value.slice A2 32 c2) := HS.out.cell 11 rfl 2; have g2 := HS.out.free 11 rfl 2; clear ho hb2)
  have HS := hide (HS.out.setCell 11 rfl 2 (.slice Jn 32 dj))
  generalize World.setCell wv _ _ = wd at HS ⊢
  clear q2 g2
  have t0 : _ = some (Value.slice A1 m1 c1) := HS.out.cell 11 rfl 0
  have t1 : _ = some (Value.slice A9 (n + 1) c9) := HS.out.cell 11 rfl 1
  have t2 : _ = some (Value.slice Jn 32 dj) := HS.out.cell 11 rfl 2
  have t3 : _ = some (Value.slice A3 m3 c3) := HS.out.cell 11 rfl 3
  go_wp2_with (refine wl_storeC rfl rfl HS.out 10 rfl (vs := [.slice A1 m1 c1, .slice A9 (n + 1) c9, .slice Jn 32 dj, .slice A3 m3 c3]) szToken (Nat.le_refl _) rfl rfl one4 ?_; intro wz hS9; have HS7 := hide hS9; clear hS9)
  refine bodyPost_ret (results_cell_tmp_row rfl _ _ (w.heap.size + 1) _ _ _ _ rfl (HS7.out.heap 10 rfl) Tryz.underlying26 rfl (by kernel_rfl)) rfl ?_
  refine ⟨⟨⟨A1, c1, l1⟩, A9, c9, l ++ [(Sg.mk (PcV.mk B d y1) (PcV.mk Bp dp (pubL nx)) (PcV.mk Bg dg (sigL l2 (y1 ++ (y5 ++ pubL nx)))) (PcV.mk Bk dk y4) (PcV.mk Bv dv y5))], ⟨Jn, dj, nx⟩, ⟨A3, c3, l3⟩⟩, _, ?_, ?_, ⟨List.mem_append_right _ HIN.out.r, List.mem_append_left _ ?_, fun v hv => ?_, List.mem_append_left _ (pc_ch HX.out 0 rfl), List.mem_append_right _ HIN.out.z⟩, HS7.out⟩
  ·rw [Tk.val_eq]
   simp only [HL1.out, HLZ.out, HX.out, HL3.out]
   rfl
  ·show Tp.mk l1 (List.map Sg.p (l ++ _)) nx l3 = _
   unfold addK
   rw [List.map_append]
   rfl
  ·show Chunk.row (.slice A9 (l ++ _).length c9) _ 5 (l ++ _).length _ ∈ _
   rw [HLZ.out]
   exact List.mem_of_getElem? (i := 1) rfl
  ·rcases List.mem_append.1 hv with h | h
   ·intro c hc
    exact List.mem_append_right _ (HIN.out.l v h c hc)
   ·rw [List.mem_singleton.1 h]
    intro c hc
    refine List.mem_append_left _ ?_
    simp only [Sg.chs, List.mem_cons, List.not_mem_nil, or_false] at hc
    rcases hc with rfl | rfl | rfl | rfl | rfl
    ·exact pc_ch HG1.out 9 rfl
    ·exact pc_ch (pubL_len _) 8 rfl
    ·exact pc_ch (sigL_len _ _) 3 rfl
    ·exact pc_ch HG4.out 7 rfl
    ·exact pc_ch HG5.out 6 rfl
theorem appR_any (H : List Chunk) (A1 A2 A3 A Ax E1 E4 E5 : Option Addr) (m1 m2 m3 n q n1 n4 n5 c1 c2 c3 c cx f1 f4 f5 : Nat) (l1 l2 l3 nx : List UInt8) (l : List Sg) (y1 y4 y5 : List UInt8) (w : World) (hl2 : l2.length = m2) (hl : l.length = n) (hx : nx.length = q) (hg1 : y1.length = n1) (hg4 : y4.length = n4) (hg5 : y5.length = n5) (hn1 : n1 ≤ 1000) (hn4 : n4 ≤ 900) (hn5 : n5 ≤ 900)
  (hr1 : Rd w (.slice A1 m1 c1) 1 m1 (bvs l1)) (hr2 : Rd w (.slice A2 m2 c2) 1 m2 (bvs l2)) (hr3 : Rd w (.slice A3 m3 c3) 1 m3 (bvs l3)) (hr : Rd w (.slice A n c) 5 n (sgCells l)) (hrx : Rd w (.slice Ax q cx) 1 q (bvs nx)) (he1 : Rd w (.slice E1 n1 f1) 1 n1 (bvs y1)) (he4 : Rd w (.slice E4 n4 f4) 1 n4 (bvs y4)) (he5 : Rd w (.slice E5 n5 f5) 1 n5 (bvs y5))
  (hl1 : l1.length = m1) (hl3 : l3.length = m3) (hin : TkIn H ⟨⟨A1, c1, l1⟩, A, c, l, ⟨A2, c2, l2⟩, ⟨A3, c3, l3⟩⟩) :
  Calls Tryz.prog 18 #[.agg #[.slice A1 m1 c1, .slice A n c, .slice A2 m2 c2, .slice A3 m3 c3], .slice Ax q cx, .slice E1 n1 f1, .slice E4 n4 f4, .slice E5 n5 f5] w (TkH H w (addRz ⟨l1, l.map Sg.p, l2, l3⟩ nx ⟨y1, [], [], y4, y5⟩)) := by
 unfold addRz
 show Calls _ _ _ _ (TkH H w (if nx.length ≠ 32 then _ else if 65536 < y1.length then _ else if (l.map Sg.p).length = 0 then _ else if l2.length ≠ 32 then _ else if 8 ≤ (l.map Sg.p).length then _ else _))
 rw [List.length_map]
 by_cases h1 : nx.length ≠ 32
 ·rw [if_pos h1]
  exact (appR_bad1 _ _ _ _ _ _ _ _ _ _ _ _ _ _ _ _ _ _ _ _ _ _ _ _ _ (by omega)).mono fun _ _ h => tkH_no h
 rw [if_neg h1]
 obtain rfl : q = 32 := by omega
 rw [if_neg (by omega)]
 by_cases h3 : l.length = 0
 ·rw [if_pos h3]
  obtain rfl : n = 0 := by omega
  exact (appR_bad3 _ _ _ _ _ _ _ _ _ _ _ _ _ _ _ _ _ _ _ _ _ _ _ (by omega)).mono fun _ _ h => tkH_no h
 rw [if_neg h3]
 by_cases h4 : l2.length ≠ 32
 ·rw [if_pos h4]
  exact (appR_bad4 _ _ _ _ _ _ _ _ _ _ _ _ _ _ _ _ _ _ _ _ _ _ _ _ (by omega) (by omega) (by omega)).mono fun _ _ h => tkH_no h
 rw [if_neg h4]
 obtain rfl : m2 = 32 := by omega
 by_cases h5 : 8 ≤ l.length
 ·rw [if_pos h5]
  exact (appR_bad5 _ _ _ _ _ _ _ _ _ _ _ _ _ _ _ _ _ _ _ _ _ _ _ (by omega) (by omega)).mono fun _ _ h => tkH_no h
 rw [if_neg h5]
 exact appR_ok H _ _ _ _ _ _ _ _ _ _ _ _ _ _ _ _ _ _ _ _ _ _ _ _ _ _ _ _ _ _ _ hl2 hl (by omega) (by omega) hx hg1 hg4 hg5 hn1 hn4 hn5 hr1 hr2 hr3 hr hrx he1 he4 he5 hl1 hl3 hin
end Go.Proofs.YtnohmgpmmhlloaaGreatDoor

namespace Go.Proofs.YtnohmgpmmhlloaaGreatDoor
open Go.RowKit
set_option linter.unusedSimpArgs false
theorem sealR_bad1 (A1 A2 A3 A : Option Addr) (m1 m2 m3 c1 c2 c3 c : Nat) (w : World)  : Calls Tryz.prog 20 #[.agg #[.slice A1 m1 c1, .slice A 0 c, .slice A2 m2 c2, .slice A3 m3 c3]] w (TkE w 1) := by
 have hS0 := ((St.init w NoB).alloc #[.slice A1 m1 c1, .slice A 0 c, .slice A2 m2 c2, .slice A3 m3 c3] 26).alloc #[.slice none 0 0, .slice none 0 0, .slice none 0 0, .slice none 0 0] 26
 rw [size_alloc1] at hS0
 have HS := hide hS0
 clear hS0
 have t1 : _ = some (Value.slice A 0 c) := HS.out.cell 1 rfl 1
 have t2 : _ = some (Value.slice A2 m2 c2) := HS.out.cell 1 rfl 2
 go_enter Tryz.func20, Tryz.ntmps20
 go_wp2_with (first
  | (refine wl_storeC rfl rfl HS.out 0 rfl (vs := [.slice none 0 0, .slice none 0 0, .slice none 0 0, .slice none 0 0]) szToken (Nat.le_refl _) rfl rfl one4 ?_; intro w7 hS7; have HS7 := hide hS7; clear hS7))
 refine bodyPost_ret (results_cell_tmp_row rfl _ _ (w.heap.size + 1) _ _ _ _ rfl (HS7.out.heap 0 rfl) Tryz.underlying26 rfl (by kernel_rfl)) rfl ?_
 exact ⟨rfl, HS7.out.below⟩
theorem sealR_bad2 (A1 A2 A3 A : Option Addr) (m1 m2 m3 n c1 c2 c3 c : Nat) (w : World) (hn : 0 < n) (hne : m2 ≠ 32) : Calls Tryz.prog 20 #[.agg #[.slice A1 m1 c1, .slice A n c, .slice A2 m2 c2, .slice A3 m3 c3]] w (TkE w 13) := by
 have hS0 := ((St.init w NoB).alloc #[.slice A1 m1 c1, .slice A n c, .slice A2 m2 c2, .slice A3 m3 c3] 26).alloc #[.slice none 0 0, .slice none 0 0, .slice none 0 0, .slice none 0 0] 26
 rw [size_alloc1] at hS0
 have HS := hide hS0
 clear hS0
 have t1 : _ = some (Value.slice A n c) := HS.out.cell 1 rfl 1
 have t2 : _ = some (Value.slice A2 m2 c2) := HS.out.cell 1 rfl 2
 have d2 : ((n : Int) == 0) = false := by simp; omega
 have d2' : decide ((n : Int) = 0) = false := by simp; omega
 go_enter Tryz.func20, Tryz.ntmps20
 go_wp2_with (first
  | (refine wl_storeC rfl rfl HS.out 0 rfl (vs := [.slice none 0 0, .slice none 0 0, .slice none 0 0, .slice none 0 0]) szToken (Nat.le_refl _) rfl rfl one4 ?_; intro w7 hS7; have HS7 := hide hS7; clear hS7)
  | (go_at_call 44; (with_reducible refine (seed23_no _ _ _ _ hne).mono ?_); rintro e wy ⟨rfl, rfl⟩))
 refine bodyPost_ret (results_cell_tmp_row rfl _ _ (w.heap.size + 1) _ _ _ _ rfl (HS7.out.heap 0 rfl) Tryz.underlying26 rfl (by kernel_rfl)) rfl ?_
 exact ⟨rfl, HS7.out.below⟩
theorem sealR_ok (H : List Chunk) (A1 A2 A3 A : Option Addr) (m1 m3 n c1 c2 c3 c : Nat) (l1 l2 l3 : List UInt8) (l : List Sg) (w : World) (hl1 : l1.length = m1) (hl2 : l2.length = 32) (hl3 : l3.length = m3) (hl : l.length = n + 1) (hn : n ≤ 100)
  (hr2 : Rd w (.slice A2 32 c2) 1 32 (bvs l2)) (hr : Rd w (.slice A (n + 1) c) 5 (n + 1) (sgCells l)) (hok : ∀ x ∈ l, SgOK w x) (z : Sg) (hz : l[n]? = some z) (hzb : z.b.b.length ≤ 1000 ∧ z.n.b.length ≤ 900 ∧ z.s.b.length ≤ 900) (hin : TkIn H ⟨⟨A1, c1, l1⟩, A, c, l, ⟨A2, c2, l2⟩, ⟨A3, c3, l3⟩⟩) :
  Calls Tryz.prog 20 #[.agg #[.slice A1 m1 c1, .slice A (n + 1) c, .slice A2 32 c2, .slice A3 m3 c3]] w (TkH H w ⟨0, sealK ⟨l1, l.map Sg.p, l2, l3⟩ z.p⟩) := by
 have hS0 := ((St.init w NoB).alloc #[.slice A1 m1 c1, .slice A (n + 1) c, .slice A2 32 c2, .slice A3 m3 c3] 26).alloc #[.slice none 0 0, .slice none 0 0, .slice none 0 0, .slice none 0 0] 26
 rw [size_alloc1] at hS0
 have HS := hide hS0
 clear hS0
 obtain ⟨⟨E1, f1, y1⟩, ⟨E2, f2, y2⟩, ⟨E3, f3, y3⟩, ⟨E4, f4, y4⟩, ⟨E5, f5, y5⟩⟩ := z
 obtain ⟨b1, b2, b3⟩ := (show y1.length ≤ 1000 ∧ y2.length ≤ 900 ∧ y3.length ≤ 900 from hzb)
 have hsg := hok _ (List.mem_of_getElem? hz)
 have HE1 : Hid (Rd w (.slice E1 y1.length f1) 1 y1.length (bvs y1)) := hide hsg.b
 have HE2 : Hid (Rd w (.slice E2 y2.length f2) 1 y2.length (bvs y2)) := hide hsg.n
 have HE3 : Hid (Rd w (.slice E3 y3.length f3) 1 y3.length (bvs y3)) := hide hsg.s
 have HM := hide (len_add3 (rfl : y1.length = _) (rfl : y2.length = _) (rfl : y3.length = _))
 obtain ⟨bb, o, rfl, hb8, hc⟩ := sg_at hr hz
 clear hsg hzb hz hok hr
 have HL1 := hide hl1
 have HL2 := hide hl2
 have HL3 := hide hl3
 have HL := hide hl
 have HR2 := hide hr2
 have HIN := hide hin
 clear hl1 hl2 hl3 hl hr2 hin
 have d2 : (((n + 1 : Nat) : Int) == 0) = false := by simp; omega
 have d2' : decide (((n + 1 : Nat) : Int) = 0) = false := by simp; omega
 have t1 : _ = some (Value.slice (some ⟨bb, o, none⟩) (n + 1) c) := HS.out.cell 1 rfl 1
 have t2 : _ = some (Value.slice A2 32 c2) := HS.out.cell 1 rfl 2
 have en : ((n + 1 : Nat) : Int) - 1 = (n : Int) := by omega
 have en2 : (n : Int) + 1 - 1 = (n : Int) := by omega
 have nn : (n : Int) < (n : Int) + 1 := by omega
 have nn2 : n < n + 1 := by omega
 have nn3 : decide ((n : Int) < (n : Int) + 1) = true := by simp; omega
 have nn4 : decide (n < n + 1) = true := by simp
 go_enter Tryz.func20, Tryz.ntmps20
 go_upto_region 5 with (go_at_call 44; (with_reducible refine (seed23_yes _ _ _).mono ?_); rintro e wy ⟨rfl, rfl⟩)
 generalize World.alloc (World.alloc w _) _ = wb at HS t1 t2 ⊢
 obtain ⟨k0, k1, k2, k3, k4⟩ := hc _ HS.out.below
 clear hc
 go_upto_region 6 with (first
  | (refine wl_storeC rfl rfl (HS.out.alloc _ _) 0 rfl (vs := [.slice E1 y1.length f1, .slice E2 y2.length f2, .slice E3 y3.length f3, .slice E4 y4.length f4, .slice E5 y5.length f5]) szSigned (Nat.le_refl _) rfl rfl one5 ?_; intro w5 hS5; have HS := hide hS5; clear hS5))
 clear t1 t2 k0 k1 k2 k3 k4
 refine wp_region_T [(0, 1), (1, 0), (2, 1), (3, 0), (4, 1), (5, 0), (6, 1), (7, 0), (8, 2), (9, 2), (10, 2), (11, 1), (12, 3), (13, 1), (14, 4)] (by kernel_rfl) (by kernel_rfl) (fun _ _ _ _ h => h) ?_
 have HS := hide HS.out.drew
 generalize w5.drew = w6 at HS ⊢
 have t2 : _ = some (Value.slice A2 32 c2) := HS.out.cell 2 rfl 2
 have s0 : _ = some (Value.slice E1 y1.length f1) := HS.out.cell 0 rfl 0
 have s1 : _ = some (Value.slice E2 y2.length f2) := HS.out.cell 0 rfl 1
 have s2 : _ = some (Value.slice E3 y3.length f3) := HS.out.cell 0 rfl 2
 have hbA := (Below.refl w6.heap.size w6).alloc (Nat.le_refl _) (.cells #[.slice E1 y1.length f1, .slice E2 y2.length f2, .slice E3 y3.length f3] 22)
 have M0 := True.intro
 go_upto_region 7 with (first
  | (clear M1; go_at_call 47; (with_reducible refine (signR_32 _ _ _ _ _ _ _ _ HL2.out HM.out (by omega) (HR2.out.below HS.out.below) (HS.out.rd 0 rfl)).mono ?_); rintro e w8 ⟨Bg, dg, rfl, hb, ho⟩; have HS := hide (HS.out.row hb ho); have q3 : _ = some (Value.slice A3 m3 c3) := HS.out.cell 4 rfl 3; have g3 := HS.out.free 4 rfl 3; have q2 : _ = some (Value.slice A2 32 c2) := HS.out.cell 4 rfl 2; have g2 := HS.out.free 4 rfl 2; clear ho; have M2 := True.intro)
  | (clear M0; go_at_call 45; (with_reducible refine (join23_3 _ rfl rfl rfl (by omega) (HE1.out.below HS.out.below) (HE2.out.below HS.out.below) (HE3.out.below HS.out.below)).mono ?_); rintro e w7 ⟨Bm, dm, rfl, hb, ho⟩; have HS := hide ((HS.out.skip _).row hb ho); clear ho; have M1 := True.intro)
  | (refine wpT_nil ?_)   | ((with_reducible refine fromT_refl ?_); (try simp only [Act.put, nq1, nq2, nq3, nq4, nq5, nq6]))   | ((with_reducible refine fromT_mk (by assumption) ?_); (try simp only [Act.put, nq1, nq2, nq3, nq4, nq5, nq6]))   | (refine wpT_pure (v := ?_) rfl rfl ?_ ?_; rotate_left; (intro wx; go_simp; try go_bits) <;> (with_reducible rfl); (try simp only [Act.put, nq1, nq2, nq3, nq4, nq5, nq6]))   | (refine wpT_load (v := ?_) rfl rfl rfl ?_ ?_; rotate_left; (go_simp; try go_bits) <;> (with_reducible rfl); (try simp only [Act.put, nq1, nq2, nq3, nq4, nq5, nq6]))   | (refine wpT_read (v := ?_) rfl rfl ?_ ?_; rotate_left; (intro wx hx; go_simp; try go_bits) <;> (with_reducible rfl); (try simp only [Act.put, nq1, nq2, nq3, nq4, nq5, nq6]))   | (refine wpT_call rfl rfl ?_; intro K hK)   | (refine wpT_late rfl rfl ?_; intro K hK)   | (refine wpT_any rfl rfl ?_; intro K hK)   | (refine wpT_skip rfl rfl ?_; (try simp only [Act.put, nq1, nq2, nq3, nq4, nq5, nq6])))
 have HS := hide ((HS.out.setCell 4 rfl 3 (.slice Bg 64 dg)).setCell 4 rfl 2 (.slice none 0 0))
 clear q2 g2 q3 g3 t2 s0 s1 s2 hb hbA
 generalize World.setCell (World.setCell w8 _ _) _ _ = w9 at HS ⊢
 have t0 : _ = some (Value.slice A1 m1 c1) := HS.out.cell 4 rfl 0
 have t1 : _ = some (Value.slice (some ⟨bb, o, none⟩) (n + 1) c) := HS.out.cell 4 rfl 1
 have t2 : _ = some (Value.slice none 0 0) := HS.out.cell 4 rfl 2
 have t3 : _ = some (Value.slice Bg 64 dg) := HS.out.cell 4 rfl 3
 go_wp2_with (refine wl_storeC rfl rfl HS.out 3 rfl (vs := [.slice A1 m1 c1, .slice (some ⟨bb, o, none⟩) (n + 1) c, .slice none 0 0, .slice Bg 64 dg]) szToken (Nat.le_refl _) rfl rfl one4 ?_; intro wz hS9; have HS7 := hide hS9; clear hS9)
 refine bodyPost_ret (results_cell_tmp_row rfl _ _ (w.heap.size + 1) _ _ _ _ rfl (HS7.out.heap 3 rfl) Tryz.underlying26 rfl (by kernel_rfl)) rfl ?_
 refine ⟨⟨⟨A1, c1, l1⟩, some ⟨bb, o, none⟩, c, l, pc0, ⟨Bg, dg, sigL l2 (y1 ++ (y2 ++ y3))⟩⟩, _, ?_, ?_, ⟨List.mem_append_right _ HIN.out.r, List.mem_append_right _ HIN.out.row, (fun v hv c hc => List.mem_append_right _ (HIN.out.l v hv c hc)), List.mem_append_left _ (List.mem_cons_self ..), List.mem_append_left _ (List.mem_cons_of_mem _ (pc_ch (sigL_len _ _) 0 rfl))⟩, HS7.out.row (Below.refl _ _) (World.ownsRow_nil _ _ _ _)⟩
 ·rw [Tk.val_eq]
  simp only [HL1.out, HL.out, sigL_len]
  rfl
 ·rfl
theorem sealR_any (H : List Chunk) (A1 A2 A3 A : Option Addr) (m1 m2 m3 n c1 c2 c3 c : Nat) (l1 l2 l3 : List UInt8) (l : List Sg) (w : World) (hl1 : l1.length = m1) (hl2 : l2.length = m2) (hl3 : l3.length = m3) (hl : l.length = n) (hn : n ≤ 100) (hs7 : ∀ x ∈ l, x.b.b.length ≤ 1000 ∧ x.n.b.length ≤ 900 ∧ x.s.b.length ≤ 900)
  (hr2 : Rd w (.slice A2 m2 c2) 1 m2 (bvs l2)) (hr : Rd w (.slice A n c) 5 n (sgCells l)) (hok : ∀ x ∈ l, SgOK w x) (hin : TkIn H ⟨⟨A1, c1, l1⟩, A, c, l, ⟨A2, c2, l2⟩, ⟨A3, c3, l3⟩⟩) :
  Calls Tryz.prog 20 #[.agg #[.slice A1 m1 c1, .slice A n c, .slice A2 m2 c2, .slice A3 m3 c3]] w (TkH H w (sealRz ⟨l1, l.map Sg.p, l2, l3⟩)) := by
 by_cases h1 : n = 0
 ·subst h1
  have e := List.eq_nil_of_length_eq_zero hl
  subst e
  exact (sealR_bad1 _ _ _ _ _ _ _ _ _ _ _ _).mono fun _ _ h => tkH_no h
 obtain ⟨m, rfl⟩ : ∃ m, n = m + 1 := ⟨n - 1, by omega⟩
 have hz : l[m]? = some (l[m]'(by omega)) := List.getElem?_eq_getElem (by omega)
 unfold sealRz
 show Calls _ _ _ _ (TkH H w (match (l.map Sg.p).getLast? with | none => _ | some x => if l2.length ≠ 32 then _ else _))
 rw [last_map hl hz]
 show Calls _ _ _ _ (TkH H w (if l2.length ≠ 32 then _ else _))
 by_cases h2 : l2.length ≠ 32
 ·rw [if_pos h2]
  exact (sealR_bad2 _ _ _ _ _ _ _ _ _ _ _ _ _ (by omega) (by omega)).mono fun _ _ h => tkH_no h
 rw [if_neg h2]
 obtain rfl : m2 = 32 := by omega
 exact sealR_ok H _ _ _ _ _ _ _ _ _ _ _ _ _ _ _ _ hl1 hl2 hl3 hl (by omega) hr2 hr hok _ hz (hs7 _ (List.mem_of_getElem? hz)) hin
end Go.Proofs.YtnohmgpmmhlloaaGreatDoor

namespace Go.Proofs.YtnohmgpmmhlloaaGreatDoor
open Go.RowKit
set_option linter.unusedSimpArgs false
noncomputable def sameSp (x y : Sp) : Bool := @decide (x = y) (Classical.propDecidable _)
theorem sameSp_yes {x y : Sp} (h : x = y) : sameSp x y = true := @decide_eq_true _ (Classical.propDecidable _) h
theorem sameSp_no {x y : Sp} (h : x ≠ y) : sameSp x y = false := @decide_eq_false _ (Classical.propDecidable _) h
theorem sameSp_of {x y : Sp} (h : sameSp x y = true) : x = y := @of_decide_eq_true _ (Classical.propDecidable _) h
theorem sameSp_not {x y : Sp} (h : sameSp x y = false) : x ≠ y := @of_decide_eq_false _ (Classical.propDecidable _) h
noncomputable def sameSl (x y : List Sp) : Bool := @decide (x = y) (Classical.propDecidable _)
theorem sameSl_yes {x y : List Sp} (h : x = y) : sameSl x y = true := @decide_eq_true _ (Classical.propDecidable _) h
theorem sameSl_no {x y : List Sp} (h : x ≠ y) : sameSl x y = false := @decide_eq_false _ (Classical.propDecidable _) h
theorem sameSl_of {x y : List Sp} (h : sameSl x y = true) : x = y := @of_decide_eq_true _ (Classical.propDecidable _) h
theorem sameSl_not {x y : List Sp} (h : sameSl x y = false) : x ≠ y := @of_decide_eq_false _ (Classical.propDecidable _) h
noncomputable def sameTp (x y : Tp) : Bool := @decide (x = y) (Classical.propDecidable _)
theorem sameTp_yes {x y : Tp} (h : x = y) : sameTp x y = true := @decide_eq_true _ (Classical.propDecidable _) h
theorem sameTp_no {x y : Tp} (h : x ≠ y) : sameTp x y = false := @decide_eq_false _ (Classical.propDecidable _) h
theorem eq_of_b {a b : List UInt8} (h : (a == b) = true) : a = b := by simpa using h
theorem ne_of_b {a b : List UInt8} (h : (a == b) = false) : a ≠ b := by simpa using h
theorem eqB_any (A B : Option Addr) (n m c d : Nat) (l k : List UInt8) (b : Bool) (w : World) (hb : (l == k) = b) (hr1 : Rd w (.slice A n c) 1 n (bvs l)) (hr2 : Rd w (.slice B m d) 1 m (bvs k)) :
  Calls Tryz.prog 54 #[.slice A n c, .slice B m d] w fun e w' => e = .returned (.bool b) ∧ w = w' := by
 have cv1 := run_str (P := Tryz.prog) Tryz.underlying22 Tryz.underlying5 Tryz.underlying9 hr1
 have cv2 := run_str (P := Tryz.prog) Tryz.underlying22 Tryz.underlying5 Tryz.underlying9 hr2
 clear hr1 hr2
 go_enter Tryz.func54, Tryz.ntmps54
 go_wp2_with fail
 go_ret
 exact ⟨rfl, rfl⟩
theorem sameSg_core (A1 A2 A3 A4 A5 B1 B2 B3 B4 B5 : Option Addr) (na1 ca1 na2 ca2 na3 ca3 na4 ca4 na5 ca5 nb1 cb1 nb2 cb2 nb3 cb3 nb4 cb4 nb5 cb5 : Nat) (l1 l2 l3 l4 l5 k1 k2 k3 k4 k5 : List UInt8) (w : World) (ha1 : Rd w (.slice A1 na1 ca1) 1 na1 (bvs l1)) (ha2 : Rd w (.slice A2 na2 ca2) 1 na2 (bvs l2)) (ha3 : Rd w (.slice A3 na3 ca3) 1 na3 (bvs l3)) (ha4 : Rd w (.slice A4 na4 ca4) 1 na4 (bvs l4)) (ha5 : Rd w (.slice A5 na5 ca5) 1 na5 (bvs l5)) (hb1 : Rd w (.slice B1 nb1 cb1) 1 nb1 (bvs k1)) (hb2 : Rd w (.slice B2 nb2 cb2) 1 nb2 (bvs k2)) (hb3 : Rd w (.slice B3 nb3 cb3) 1 nb3 (bvs k3)) (hb4 : Rd w (.slice B4 nb4 cb4) 1 nb4 (bvs k4)) (hb5 : Rd w (.slice B5 nb5 cb5) 1 nb5 (bvs k5)) :
  Calls Tryz.prog 56 #[.agg #[.slice A1 na1 ca1, .slice A2 na2 ca2, .slice A3 na3 ca3, .slice A4 na4 ca4, .slice A5 na5 ca5], .agg #[.slice B1 nb1 cb1, .slice B2 nb2 cb2, .slice B3 nb3 cb3, .slice B4 nb4 cb4, .slice B5 nb5 cb5]] w fun e w' => e = .returned (.bool (sameSp ⟨l1, l2, l3, l4, l5⟩ ⟨k1, k2, k3, k4, k5⟩)) ∧ Below w.heap.size w w' := by
 have hS0 := ((St.init w NoB).alloc #[.slice A1 na1 ca1, .slice A2 na2 ca2, .slice A3 na3 ca3, .slice A4 na4 ca4, .slice A5 na5 ca5] 32).alloc #[.slice B1 nb1 cb1, .slice B2 nb2 cb2, .slice B3 nb3 cb3, .slice B4 nb4 cb4, .slice B5 nb5 cb5] 32
 rw [size_alloc1] at hS0
 have HS := hide hS0
 clear hS0
 have HA1 := hide (ha1.below HS.out.below)
 have HA2 := hide (ha2.below HS.out.below)
 have HA3 := hide (ha3.below HS.out.below)
 have HA4 := hide (ha4.below HS.out.below)
 have HA5 := hide (ha5.below HS.out.below)
 have HB1 := hide (hb1.below HS.out.below)
 have HB2 := hide (hb2.below HS.out.below)
 have HB3 := hide (hb3.below HS.out.below)
 have HB4 := hide (hb4.below HS.out.below)
 have HB5 := hide (hb5.below HS.out.below)
 clear ha1 ha2 ha3 ha4 ha5 hb1 hb2 hb3 hb4 hb5
 have ta1 : _ = some (Value.slice A1 na1 ca1) := HS.out.cell 1 rfl 0
 have ta2 : _ = some (Value.slice A2 na2 ca2) := HS.out.cell 1 rfl 1
 have ta3 : _ = some (Value.slice A3 na3 ca3) := HS.out.cell 1 rfl 2
 have ta4 : _ = some (Value.slice A4 na4 ca4) := HS.out.cell 1 rfl 3
 have ta5 : _ = some (Value.slice A5 na5 ca5) := HS.out.cell 1 rfl 4
 have tb1 : _ = some (Value.slice B1 nb1 cb1) := HS.out.cell 0 rfl 0
 have tb2 : _ = some (Value.slice B2 nb2 cb2) := HS.out.cell 0 rfl 1
 have tb3 : _ = some (Value.slice B3 nb3 cb3) := HS.out.cell 0 rfl 2
 have tb4 : _ = some (Value.slice B4 nb4 cb4) := HS.out.cell 0 rfl 3
 have tb5 : _ = some (Value.slice B5 nb5 cb5) := HS.out.cell 0 rfl 4
 cases e1 : (l1 == k1) with
 | false =>
  go_enter Tryz.func56, Tryz.ntmps56
  have M0 := True.intro
  go_wp2_with (first
   | (clear M0; go_at_call 54; (with_reducible refine (eqB_any _ _ _ _ _ _ _ _ _ _ e1 HA1.out HB1.out).mono ?_); rintro e wy ⟨rfl, rfl⟩; have M1 := True.intro))
  go_ret
  exact ⟨congrArg (fun b => Ending.returned (.bool b)) (sameSp_no (fun h => ne_of_b e1 (congrArg Sp.b h))).symm, HS.out.below⟩
 | true =>
  cases e2 : (l2 == k2) with
  | false =>
   go_enter Tryz.func56, Tryz.ntmps56
   have M0 := True.intro
   go_wp2_with (first
    | (clear M1; go_at_call 54; (with_reducible refine (eqB_any _ _ _ _ _ _ _ _ _ _ e2 HA2.out HB2.out).mono ?_); rintro e wy ⟨rfl, rfl⟩; have M2 := True.intro)
    | (clear M0; go_at_call 54; (with_reducible refine (eqB_any _ _ _ _ _ _ _ _ _ _ e1 HA1.out HB1.out).mono ?_); rintro e wy ⟨rfl, rfl⟩; have M1 := True.intro))
   go_ret
   exact ⟨congrArg (fun b => Ending.returned (.bool b)) (sameSp_no (fun h => ne_of_b e2 (congrArg Sp.n h))).symm, HS.out.below⟩
  | true =>
   cases e3 : (l3 == k3) with
   | false =>
    go_enter Tryz.func56, Tryz.ntmps56
    have M0 := True.intro
    go_wp2_with (first
     | (clear M2; go_at_call 54; (with_reducible refine (eqB_any _ _ _ _ _ _ _ _ _ _ e3 HA3.out HB3.out).mono ?_); rintro e wy ⟨rfl, rfl⟩; have M3 := True.intro)
     | (clear M1; go_at_call 54; (with_reducible refine (eqB_any _ _ _ _ _ _ _ _ _ _ e2 HA2.out HB2.out).mono ?_); rintro e wy ⟨rfl, rfl⟩; have M2 := True.intro)
     | (clear M0; go_at_call 54; (with_reducible refine (eqB_any _ _ _ _ _ _ _ _ _ _ e1 HA1.out HB1.out).mono ?_); rintro e wy ⟨rfl, rfl⟩; have M1 := True.intro))
    go_ret
    exact ⟨congrArg (fun b => Ending.returned (.bool b)) (sameSp_no (fun h => ne_of_b e3 (congrArg Sp.s h))).symm, HS.out.below⟩
   | true =>
    cases e4 : (l4 == k4) with
    | false =>
     go_enter Tryz.func56, Tryz.ntmps56
     have M0 := True.intro
     go_wp2_with (first
      | (clear M3; go_at_call 54; (with_reducible refine (eqB_any _ _ _ _ _ _ _ _ _ _ e4 HA4.out HB4.out).mono ?_); rintro e wy ⟨rfl, rfl⟩; have M4 := True.intro)
      | (clear M2; go_at_call 54; (with_reducible refine (eqB_any _ _ _ _ _ _ _ _ _ _ e3 HA3.out HB3.out).mono ?_); rintro e wy ⟨rfl, rfl⟩; have M3 := True.intro)
      | (clear M1; go_at_call 54; (with_reducible refine (eqB_any _ _ _ _ _ _ _ _ _ _ e2 HA2.out HB2.out).mono ?_); rintro e wy ⟨rfl, rfl⟩; have M2 := True.intro)
      | (clear M0; go_at_call 54; (with_reducible refine (eqB_any _ _ _ _ _ _ _ _ _ _ e1 HA1.out HB1.out).mono ?_); rintro e wy ⟨rfl, rfl⟩; have M1 := True.intro))
     go_ret
     exact ⟨congrArg (fun b => Ending.returned (.bool b)) (sameSp_no (fun h => ne_of_b e4 (congrArg Sp.k h))).symm, HS.out.below⟩
    | true =>
     cases e5 : (l5 == k5) with
     | false =>
      go_enter Tryz.func56, Tryz.ntmps56
      have M0 := True.intro
      go_wp2_with (first
       | (clear M4; go_at_call 54; (with_reducible refine (eqB_any _ _ _ _ _ _ _ _ _ _ e5 HA5.out HB5.out).mono ?_); rintro e wy ⟨rfl, rfl⟩; have M5 := True.intro)
       | (clear M3; go_at_call 54; (with_reducible refine (eqB_any _ _ _ _ _ _ _ _ _ _ e4 HA4.out HB4.out).mono ?_); rintro e wy ⟨rfl, rfl⟩; have M4 := True.intro)
       | (clear M2; go_at_call 54; (with_reducible refine (eqB_any _ _ _ _ _ _ _ _ _ _ e3 HA3.out HB3.out).mono ?_); rintro e wy ⟨rfl, rfl⟩; have M3 := True.intro)
       | (clear M1; go_at_call 54; (with_reducible refine (eqB_any _ _ _ _ _ _ _ _ _ _ e2 HA2.out HB2.out).mono ?_); rintro e wy ⟨rfl, rfl⟩; have M2 := True.intro)
       | (clear M0; go_at_call 54; (with_reducible refine (eqB_any _ _ _ _ _ _ _ _ _ _ e1 HA1.out HB1.out).mono ?_); rintro e wy ⟨rfl, rfl⟩; have M1 := True.intro))
      go_ret
      exact ⟨congrArg (fun b => Ending.returned (.bool b)) (sameSp_no (fun h => ne_of_b e5 (congrArg Sp.v h))).symm, HS.out.below⟩
     | true =>
      go_enter Tryz.func56, Tryz.ntmps56
      have M0 := True.intro
      go_wp2_with (first
       | (clear M4; go_at_call 54; (with_reducible refine (eqB_any _ _ _ _ _ _ _ _ _ _ e5 HA5.out HB5.out).mono ?_); rintro e wy ⟨rfl, rfl⟩; have M5 := True.intro)
       | (clear M3; go_at_call 54; (with_reducible refine (eqB_any _ _ _ _ _ _ _ _ _ _ e4 HA4.out HB4.out).mono ?_); rintro e wy ⟨rfl, rfl⟩; have M4 := True.intro)
       | (clear M2; go_at_call 54; (with_reducible refine (eqB_any _ _ _ _ _ _ _ _ _ _ e3 HA3.out HB3.out).mono ?_); rintro e wy ⟨rfl, rfl⟩; have M3 := True.intro)
       | (clear M1; go_at_call 54; (with_reducible refine (eqB_any _ _ _ _ _ _ _ _ _ _ e2 HA2.out HB2.out).mono ?_); rintro e wy ⟨rfl, rfl⟩; have M2 := True.intro)
       | (clear M0; go_at_call 54; (with_reducible refine (eqB_any _ _ _ _ _ _ _ _ _ _ e1 HA1.out HB1.out).mono ?_); rintro e wy ⟨rfl, rfl⟩; have M1 := True.intro))
      go_ret
      exact ⟨congrArg (fun b => Ending.returned (.bool b)) (sameSp_yes (by rw [eq_of_b e1, eq_of_b e2, eq_of_b e3, eq_of_b e4, eq_of_b e5])).symm, HS.out.below⟩
theorem eqFn_any (A B : Option Addr) (n m c d : Nat) (l k : List Sg) (w : World) (hl : l.length = n) (hk : k.length = m) (hn : n ≤ 1000) (hm : m ≤ 1000) (hr1 : Rd w (.slice A n c) 5 n (sgCells l)) (hr2 : Rd w (.slice B m d) 5 m (sgCells k)) (hx : ∀ x ∈ l, SgOK w x) (hy : ∀ x ∈ k, SgOK w x) :
  Calls Tryz.prog 55 #[.slice A n c, .slice B m d, .func (.func 56) #[] #[]] w fun e w' => e = .returned (.bool (sameSl (l.map Sg.p) (k.map Sg.p))) ∧ Below w.heap.size w w' := by
 by_cases h1 : n ≠ m
 ·have d1 : ((n : Int) != (m : Int)) = true := by simp; omega
  have d2 : (n != m) = true := by simp; omega
  have hne : (l.map Sg.p) ≠ (k.map Sg.p) := fun h => by
   have := congrArg List.length h
   rw [List.length_map, List.length_map] at this
   omega
  rw [sameSl_no hne]
  clear hr1 hr2 hx hy hne
  go_enter Tryz.func55, Tryz.ntmps55
  go_wp2_with fail
  go_ret
  exact ⟨rfl, Below.refl _ _⟩
 obtain rfl : n = m := Decidable.not_not.1 h1
 have HR1 := hide hr1
 have HR2 := hide hr2
 have HX := hide hx
 have HY := hide hy
 have HL := hide hl
 have HK := hide hk
 clear hr1 hr2 hx hy hl hk h1 hm
 go_enter Tryz.func55, Tryz.ntmps55
 go_wp2_with fail
 go_loopw [17] (fun iv wr => ∃ (j : Nat), j ≤ n ∧ iv = .int .i64 (j : Int) ∧ (l.take j).map Sg.p = (k.take j).map Sg.p ∧ Hid (Below w.heap.size w wr)) (fun iv _ => n - (intOf iv).toNat)
 case atStart => exact ⟨0, by omega, rfl, rfl, Below.refl _ _⟩
 case round =>
  obtain ⟨j, hj, rfl, hpr, HB⟩ := hrel
  have HPR := hide hpr
  clear hpr
  by_cases hlt : j < n
  ·have d0 : decide ((j : Int) < (n : Int)) = true := by simp; omega
   have d0' : decide (j < n) = true := by simp; omega
   have jn : (j : Int) < (n : Int) := by omega
   have hlk : l[j]? = some (l[j]'(by have := HL.out; omega)) := List.getElem?_eq_getElem _
   have hkk : k[j]? = some (k[j]'(by have := HK.out; omega)) := List.getElem?_eq_getElem _
   obtain ⟨b1, o1, rfl, h8, hc1⟩ := sg_at HR1.out hlk
   obtain ⟨b2, o2, rfl, h9, hc2⟩ := sg_at HR2.out hkk
   have HOX := hide (HX.out _ (List.mem_of_getElem? hlk))
   have HOY := hide (HY.out _ (List.mem_of_getElem? hkk))
   have HT1 := hide (show (l.take (j + 1)).map Sg.p = (l.take j).map Sg.p ++ [(l[j]'(by have := HL.out; omega)).p] by rw [List.take_add_one, hlk, List.map_append]; rfl)
   have HT2 := hide (show (k.take (j + 1)).map Sg.p = (k.take j).map Sg.p ++ [(k[j]'(by have := HK.out; omega)).p] by rw [List.take_add_one, hkk, List.map_append]; rfl)
   have HG1 := hide (show (l.map Sg.p)[j]? = some (l[j]'(by have := HL.out; omega)).p by rw [List.getElem?_map, hlk]; rfl)
   have HG2 := hide (show (k.map Sg.p)[j]? = some (k[j]'(by have := HK.out; omega)).p by rw [List.getElem?_map, hkk]; rfl)
   generalize l[j]'(_) = x at hlk hc1 HOX HT1 HG1
   generalize k[j]'(_) = y at hkk hc2 HOY HT2 HG2
   obtain ⟨⟨A1, ca1, l1⟩, ⟨A2, ca2, l2⟩, ⟨A3, ca3, l3⟩, ⟨A4, ca4, l4⟩, ⟨A5, ca5, l5⟩⟩ := x
   obtain ⟨⟨B1, cb1, k1⟩, ⟨B2, cb2, k2⟩, ⟨B3, cb3, k3⟩, ⟨B4, cb4, k4⟩, ⟨B5, cb5, k5⟩⟩ := y
   clear hlk hkk
   have HS := hide (St.init wr NoB)
   obtain ⟨x0, x1, x2, x3, x4⟩ := hc1 _ HB.out
   have M0 := True.intro
   go_upto_region 6 with (clear M0; refine wl_storeC rfl rfl (HS.out.alloc _ _) 0 rfl (vs := [.slice A1 l1.length ca1, .slice A2 l2.length ca2, .slice A3 l3.length ca3, .slice A4 l4.length ca4, .slice A5 l5.length ca5]) szSigned (Nat.le_refl _) rfl rfl one5 ?_; intro w5 hS5; have HS := hide hS5; clear hS5)
   clear x0 x1 x2 x3 x4
   obtain ⟨y0, y1, y2, y3, y4⟩ := hc2 _ (bnx HB.out HS.out.below)
   have M0 := True.intro
   go_upto_region 7 with (clear M0; refine wl_storeC rfl rfl (HS.out.alloc _ _) 0 rfl (vs := [.slice B1 k1.length cb1, .slice B2 k2.length cb2, .slice B3 k3.length cb3, .slice B4 k4.length cb4, .slice B5 k5.length cb5]) szSigned (Nat.le_refl _) rfl rfl one5 ?_; intro w6 hS5; have HS := hide hS5; clear hS5)
   clear y0 y1 y2 y3 y4 hc1 hc2
   have HBW := hide (bnx HB.out HS.out.below)
   have x0 : _ = some (Value.slice A1 l1.length ca1) := HS.out.cell 1 rfl 0
   have x1 : _ = some (Value.slice A2 l2.length ca2) := HS.out.cell 1 rfl 1
   have x2 : _ = some (Value.slice A3 l3.length ca3) := HS.out.cell 1 rfl 2
   have x3 : _ = some (Value.slice A4 l4.length ca4) := HS.out.cell 1 rfl 3
   have x4 : _ = some (Value.slice A5 l5.length ca5) := HS.out.cell 1 rfl 4
   have HEA1 : Hid (Rd w6 (.slice A1 l1.length ca1) 1 l1.length (bvs l1)) := hide (HOX.out.on HBW.out).b
   have HEA2 : Hid (Rd w6 (.slice A2 l2.length ca2) 1 l2.length (bvs l2)) := hide (HOX.out.on HBW.out).n
   have HEA3 : Hid (Rd w6 (.slice A3 l3.length ca3) 1 l3.length (bvs l3)) := hide (HOX.out.on HBW.out).s
   have HEA4 : Hid (Rd w6 (.slice A4 l4.length ca4) 1 l4.length (bvs l4)) := hide (HOX.out.on HBW.out).k
   have HEA5 : Hid (Rd w6 (.slice A5 l5.length ca5) 1 l5.length (bvs l5)) := hide (HOX.out.on HBW.out).v
   have y0 : _ = some (Value.slice B1 k1.length cb1) := HS.out.cell 0 rfl 0
   have y1 : _ = some (Value.slice B2 k2.length cb2) := HS.out.cell 0 rfl 1
   have y2 : _ = some (Value.slice B3 k3.length cb3) := HS.out.cell 0 rfl 2
   have y3 : _ = some (Value.slice B4 k4.length cb4) := HS.out.cell 0 rfl 3
   have y4 : _ = some (Value.slice B5 k5.length cb5) := HS.out.cell 0 rfl 4
   have HEB1 : Hid (Rd w6 (.slice B1 k1.length cb1) 1 k1.length (bvs k1)) := hide (HOY.out.on HBW.out).b
   have HEB2 : Hid (Rd w6 (.slice B2 k2.length cb2) 1 k2.length (bvs k2)) := hide (HOY.out.on HBW.out).n
   have HEB3 : Hid (Rd w6 (.slice B3 k3.length cb3) 1 k3.length (bvs k3)) := hide (HOY.out.on HBW.out).s
   have HEB4 : Hid (Rd w6 (.slice B4 k4.length cb4) 1 k4.length (bvs k4)) := hide (HOY.out.on HBW.out).k
   have HEB5 : Hid (Rd w6 (.slice B5 k5.length cb5) 1 k5.length (bvs k5)) := hide (HOY.out.on HBW.out).v
   cases eb : sameSp ⟨l1, l2, l3, l4, l5⟩ ⟨k1, k2, k3, k4, k5⟩ with
   | false =>
    go_wp2_with (go_at_call 56; (with_reducible refine (sameSg_core _ _ _ _ _ _ _ _ _ _ _ _ _ _ _ _ _ _ _ _ _ _ _ _ _ _ _ _ _ _ _ _ _ _ _ _ _ _ _ _ _ HEA1.out HEA2.out HEA3.out HEA4.out HEA5.out HEB1.out HEB2.out HEB3.out HEB4.out HEB5.out).mono ?_); rintro e w7 ⟨rfl, hb⟩; rw [eb]; have HS := hide (HS.out.call hb))
    go_ret
    exact ⟨congrArg (fun b => Ending.returned (.bool b)) (sameSl_no (fun h => sameSp_not eb (by
     have h1 := HG1.out
     rw [h, HG2.out] at h1
     exact (Option.some.inj h1).symm))).symm, bnx HB.out HS.out.below⟩
   | true =>
    have HEQ := hide (sameSp_of eb)
    go_wp2_with (go_at_call 56; (with_reducible refine (sameSg_core _ _ _ _ _ _ _ _ _ _ _ _ _ _ _ _ _ _ _ _ _ _ _ _ _ _ _ _ _ _ _ _ _ _ _ _ _ _ _ _ _ HEA1.out HEA2.out HEA3.out HEA4.out HEA5.out HEB1.out HEB2.out HEB3.out HEB4.out HEB5.out).mono ?_); rintro e w7 ⟨rfl, hb⟩; rw [eb]; have HS := hide (HS.out.call hb))
    go_roundw
    case rel => exact ⟨j + 1, by omega, by go_num, (by rw [HT1.out, HT2.out, HPR.out]; exact congrArg (fun z => List.map Sg.p (List.take j k) ++ [z]) HEQ.out), bnx HB.out HS.out.below⟩
    case measure => (simp [intOf]) <;> omega
  ·obtain rfl : j = n := by omega
   have d0 : decide ((j : Int) < (j : Int)) = false := by simp
   have d0' : decide (j < j) = false := by simp
   have hp := HPR.out
   rw [List.take_of_length_le (by rw [HL.out]; omega), List.take_of_length_le (by rw [HK.out]; omega)] at hp
   have HP := hide hp
   clear hp
   go_wp2_with fail
   go_ret
   exact ⟨congrArg (fun b => Ending.returned (.bool b)) (sameSl_yes HP.out).symm, HB.out⟩
end Go.Proofs.YtnohmgpmmhlloaaGreatDoor

namespace Go.Proofs.YtnohmgpmmhlloaaGreatDoor
open Go.RowKit
set_option linter.unusedSimpArgs false
theorem same_any (A1 A2 A3 A B1 B2 B3 B : Option Addr) (m1 m2 m3 n c1 c2 c3 c p1 p2 p3 m d1 d2 d3 d : Nat) (l1 l2 l3 k1 k2 k3 : List UInt8) (l k : List Sg) (w : World) (hl : l.length = n) (hk : k.length = m) (hn : n ≤ 1000) (hm : m ≤ 1000)
  (ha1 : Rd w (.slice A1 m1 c1) 1 m1 (bvs l1)) (ha2 : Rd w (.slice A2 m2 c2) 1 m2 (bvs l2)) (ha3 : Rd w (.slice A3 m3 c3) 1 m3 (bvs l3)) (ha : Rd w (.slice A n c) 5 n (sgCells l)) (hx : ∀ x ∈ l, SgOK w x)
  (hb1 : Rd w (.slice B1 p1 d1) 1 p1 (bvs k1)) (hb2 : Rd w (.slice B2 p2 d2) 1 p2 (bvs k2)) (hb3 : Rd w (.slice B3 p3 d3) 1 p3 (bvs k3)) (hb : Rd w (.slice B m d) 5 m (sgCells k)) (hy : ∀ x ∈ k, SgOK w x) :
  Calls Tryz.prog 22 #[.agg #[.slice A1 m1 c1, .slice A n c, .slice A2 m2 c2, .slice A3 m3 c3], .agg #[.slice B1 p1 d1, .slice B m d, .slice B2 p2 d2, .slice B3 p3 d3]] w (fun e w' => e = .returned (.bool (sameTp ⟨l1, l.map Sg.p, l2, l3⟩ ⟨k1, k.map Sg.p, k2, k3⟩)) ∧ Below w.heap.size w w') := by
 have hS0 := ((St.init w NoB).alloc #[.slice A1 m1 c1, .slice A n c, .slice A2 m2 c2, .slice A3 m3 c3] 26).alloc #[.slice B1 p1 d1, .slice B m d, .slice B2 p2 d2, .slice B3 p3 d3] 26
 rw [size_alloc1] at hS0
 have HS := hide hS0
 clear hS0
 have HA1 := hide (ha1.below HS.out.below)
 have HA2 := hide (ha2.below HS.out.below)
 have HA3 := hide (ha3.below HS.out.below)
 have HA := hide (ha.below HS.out.below)
 have HB1 := hide (hb1.below HS.out.below)
 have HB2 := hide (hb2.below HS.out.below)
 have HB3 := hide (hb3.below HS.out.below)
 have HB := hide (hb.below HS.out.below)
 have HX := hide (fun x hm => (hx x hm).on HS.out.below)
 have HY := hide (fun x hm => (hy x hm).on HS.out.below)
 have HL := hide hl
 have HK := hide hk
 clear ha1 ha2 ha3 ha hx hb1 hb2 hb3 hb hy hl hk
 have ta0 : _ = some (Value.slice A1 m1 c1) := HS.out.cell 1 rfl 0
 have ta1 : _ = some (Value.slice A n c) := HS.out.cell 1 rfl 1
 have ta2 : _ = some (Value.slice A2 m2 c2) := HS.out.cell 1 rfl 2
 have ta3 : _ = some (Value.slice A3 m3 c3) := HS.out.cell 1 rfl 3
 have tb0 : _ = some (Value.slice B1 p1 d1) := HS.out.cell 0 rfl 0
 have tb1 : _ = some (Value.slice B m d) := HS.out.cell 0 rfl 1
 have tb2 : _ = some (Value.slice B2 p2 d2) := HS.out.cell 0 rfl 2
 have tb3 : _ = some (Value.slice B3 p3 d3) := HS.out.cell 0 rfl 3
 cases e1 : (l1 == k1) with
 | false =>
  go_enter Tryz.func22, Tryz.ntmps22
  have M0 := True.intro
  go_wp2_with (first
   | (clear M0; go_at_call 54; (with_reducible refine (eqB_any _ _ _ _ _ _ _ _ _ _ e1 HA1.out HB1.out).mono ?_); rintro e wy ⟨rfl, rfl⟩; have M1 := True.intro))
  go_ret
  exact ⟨congrArg (fun b => Ending.returned (.bool b)) (sameTp_no (fun h => ne_of_b e1 (congrArg Tp.r h))).symm, HS.out.below⟩
 | true =>
  cases e2 : (l2 == k2) with
  | false =>
   go_enter Tryz.func22, Tryz.ntmps22
   have M0 := True.intro
   go_wp2_with (first
    | (clear M1; go_at_call 54; (with_reducible refine (eqB_any _ _ _ _ _ _ _ _ _ _ e2 HA2.out HB2.out).mono ?_); rintro e wy ⟨rfl, rfl⟩; have M2 := True.intro)
    | (clear M0; go_at_call 54; (with_reducible refine (eqB_any _ _ _ _ _ _ _ _ _ _ e1 HA1.out HB1.out).mono ?_); rintro e wy ⟨rfl, rfl⟩; have M1 := True.intro))
   go_ret
   exact ⟨congrArg (fun b => Ending.returned (.bool b)) (sameTp_no (fun h => ne_of_b e2 (congrArg Tp.e h))).symm, HS.out.below⟩
  | true =>
   cases e3 : (l3 == k3) with
   | false =>
    go_enter Tryz.func22, Tryz.ntmps22
    have M0 := True.intro
    go_wp2_with (first
     | (clear M2; go_at_call 54; (with_reducible refine (eqB_any _ _ _ _ _ _ _ _ _ _ e3 HA3.out HB3.out).mono ?_); rintro e wy ⟨rfl, rfl⟩; have M3 := True.intro)
     | (clear M1; go_at_call 54; (with_reducible refine (eqB_any _ _ _ _ _ _ _ _ _ _ e2 HA2.out HB2.out).mono ?_); rintro e wy ⟨rfl, rfl⟩; have M2 := True.intro)
     | (clear M0; go_at_call 54; (with_reducible refine (eqB_any _ _ _ _ _ _ _ _ _ _ e1 HA1.out HB1.out).mono ?_); rintro e wy ⟨rfl, rfl⟩; have M1 := True.intro))
    go_ret
    exact ⟨congrArg (fun b => Ending.returned (.bool b)) (sameTp_no (fun h => ne_of_b e3 (congrArg Tp.z h))).symm, HS.out.below⟩
   | true =>
    cases e4 : sameSl (l.map Sg.p) (k.map Sg.p) with
    | false =>
     go_enter Tryz.func22, Tryz.ntmps22
     have M0 := True.intro
     go_wp2_with (first
      | (clear M3; go_at_call 55; (with_reducible refine (eqFn_any _ _ _ _ _ _ _ _ _ HL.out HK.out hn hm HA.out HB.out HX.out HY.out).mono ?_); rintro e wy ⟨rfl, hb⟩; rw [e4]; have HS := hide (HS.out.call hb); have M4 := True.intro)
      | (clear M2; go_at_call 54; (with_reducible refine (eqB_any _ _ _ _ _ _ _ _ _ _ e3 HA3.out HB3.out).mono ?_); rintro e wy ⟨rfl, rfl⟩; have M3 := True.intro)
      | (clear M1; go_at_call 54; (with_reducible refine (eqB_any _ _ _ _ _ _ _ _ _ _ e2 HA2.out HB2.out).mono ?_); rintro e wy ⟨rfl, rfl⟩; have M2 := True.intro)
      | (clear M0; go_at_call 54; (with_reducible refine (eqB_any _ _ _ _ _ _ _ _ _ _ e1 HA1.out HB1.out).mono ?_); rintro e wy ⟨rfl, rfl⟩; have M1 := True.intro))
     go_ret
     exact ⟨congrArg (fun b => Ending.returned (.bool b)) (sameTp_no (fun h => sameSl_not e4 (congrArg Tp.l h))).symm, HS.out.below⟩
    | true =>
     go_enter Tryz.func22, Tryz.ntmps22
     have M0 := True.intro
     go_wp2_with (first
      | (clear M3; go_at_call 55; (with_reducible refine (eqFn_any _ _ _ _ _ _ _ _ _ HL.out HK.out hn hm HA.out HB.out HX.out HY.out).mono ?_); rintro e wy ⟨rfl, hb⟩; rw [e4]; have HS := hide (HS.out.call hb); have M4 := True.intro)
      | (clear M2; go_at_call 54; (with_reducible refine (eqB_any _ _ _ _ _ _ _ _ _ _ e3 HA3.out HB3.out).mono ?_); rintro e wy ⟨rfl, rfl⟩; have M3 := True.intro)
      | (clear M1; go_at_call 54; (with_reducible refine (eqB_any _ _ _ _ _ _ _ _ _ _ e2 HA2.out HB2.out).mono ?_); rintro e wy ⟨rfl, rfl⟩; have M2 := True.intro)
      | (clear M0; go_at_call 54; (with_reducible refine (eqB_any _ _ _ _ _ _ _ _ _ _ e1 HA1.out HB1.out).mono ?_); rintro e wy ⟨rfl, rfl⟩; have M1 := True.intro))
     go_ret
     exact ⟨congrArg (fun b => Ending.returned (.bool b)) (sameTp_yes (by rw [eq_of_b e1, eq_of_b e2, eq_of_b e3, sameSl_of e4])).symm, HS.out.below⟩
theorem sameR_tok (A1 A2 A3 A B1 B2 B3 B : Option Addr) (m1 m2 m3 n c1 c2 c3 c p1 p2 p3 m d1 d2 d3 d : Nat) (l1 l2 l3 k1 k2 k3 : List UInt8) (l k : List Sg) (w : World) (hl : l.length = n) (hk : k.length = m) (hn : n ≤ 1000) (hm : m ≤ 1000)
  (ha1 : Rd w (.slice A1 m1 c1) 1 m1 (bvs l1)) (ha2 : Rd w (.slice A2 m2 c2) 1 m2 (bvs l2)) (ha3 : Rd w (.slice A3 m3 c3) 1 m3 (bvs l3)) (ha : Rd w (.slice A n c) 5 n (sgCells l)) (hx : ∀ x ∈ l, SgOK w x)
  (hb1 : Rd w (.slice B1 p1 d1) 1 p1 (bvs k1)) (hb2 : Rd w (.slice B2 p2 d2) 1 p2 (bvs k2)) (hb3 : Rd w (.slice B3 p3 d3) 1 p3 (bvs k3)) (hb : Rd w (.slice B m d) 5 m (sgCells k)) (hy : ∀ x ∈ k, SgOK w x) :
  Calls Tryz.prog 14 #[.agg #[.slice A1 m1 c1, .slice A n c, .slice A2 m2 c2, .slice A3 m3 c3], .agg #[.slice B1 p1 d1, .slice B m d, .slice B2 p2 d2, .slice B3 p3 d3]] w (fun e w' => e = .returned (.bool (sameTp ⟨l1, l.map Sg.p, l2, l3⟩ ⟨k1, k.map Sg.p, k2, k3⟩)) ∧ Below w.heap.size w w') := by
 have hS0 := ((St.init w NoB).alloc #[.slice A1 m1 c1, .slice A n c, .slice A2 m2 c2, .slice A3 m3 c3] 26).alloc #[.slice B1 p1 d1, .slice B m d, .slice B2 p2 d2, .slice B3 p3 d3] 26
 rw [size_alloc1] at hS0
 have HS := hide hS0
 clear hS0
 have HA1 := hide (ha1.below HS.out.below)
 have HA2 := hide (ha2.below HS.out.below)
 have HA3 := hide (ha3.below HS.out.below)
 have HA := hide (ha.below HS.out.below)
 have HB1 := hide (hb1.below HS.out.below)
 have HB2 := hide (hb2.below HS.out.below)
 have HB3 := hide (hb3.below HS.out.below)
 have HB := hide (hb.below HS.out.below)
 have HX := hide (fun x hm => (hx x hm).on HS.out.below)
 have HY := hide (fun x hm => (hy x hm).on HS.out.below)
 have HL := hide hl
 have HK := hide hk
 clear ha1 ha2 ha3 ha hx hb1 hb2 hb3 hb hy hl hk
 have ta0 : _ = some (Value.slice A1 m1 c1) := HS.out.cell 1 rfl 0
 have ta1 : _ = some (Value.slice A n c) := HS.out.cell 1 rfl 1
 have ta2 : _ = some (Value.slice A2 m2 c2) := HS.out.cell 1 rfl 2
 have ta3 : _ = some (Value.slice A3 m3 c3) := HS.out.cell 1 rfl 3
 have tb0 : _ = some (Value.slice B1 p1 d1) := HS.out.cell 0 rfl 0
 have tb1 : _ = some (Value.slice B m d) := HS.out.cell 0 rfl 1
 have tb2 : _ = some (Value.slice B2 p2 d2) := HS.out.cell 0 rfl 2
 have tb3 : _ = some (Value.slice B3 p3 d3) := HS.out.cell 0 rfl 3
 have cvA1 := run_str (P := Tryz.prog) Tryz.underlying22 Tryz.underlying5 Tryz.underlying9 HA1.out
 have cvA2 := run_str (P := Tryz.prog) Tryz.underlying22 Tryz.underlying5 Tryz.underlying9 HA2.out
 have cvA3 := run_str (P := Tryz.prog) Tryz.underlying22 Tryz.underlying5 Tryz.underlying9 HA3.out
 have cvB1 := run_str (P := Tryz.prog) Tryz.underlying22 Tryz.underlying5 Tryz.underlying9 HB1.out
 have cvB2 := run_str (P := Tryz.prog) Tryz.underlying22 Tryz.underlying5 Tryz.underlying9 HB2.out
 have cvB3 := run_str (P := Tryz.prog) Tryz.underlying22 Tryz.underlying5 Tryz.underlying9 HB3.out
 cases e1 : (l1 == k1) with
 | false =>
  have f1 : (l1 != k1) = true := by rw [bne, e1]; rfl
  go_enter Tryz.func14, Tryz.ntmps14
  go_wp2_with fail
  go_ret
  exact ⟨congrArg (fun b => Ending.returned (.bool b)) (sameTp_no (fun h => ne_of_b e1 (congrArg Tp.r h))).symm, HS.out.below⟩
 | true =>
  have f1 : (l1 != k1) = false := by rw [bne, e1]; rfl
  cases e2 : (l2 == k2) with
  | false =>
   have f2 : (l2 != k2) = true := by rw [bne, e2]; rfl
   go_enter Tryz.func14, Tryz.ntmps14
   go_wp2_with fail
   go_ret
   exact ⟨congrArg (fun b => Ending.returned (.bool b)) (sameTp_no (fun h => ne_of_b e2 (congrArg Tp.e h))).symm, HS.out.below⟩
  | true =>
   have f2 : (l2 != k2) = false := by rw [bne, e2]; rfl
   cases e3 : (l3 == k3) with
   | false =>
    have f3 : (l3 != k3) = true := by rw [bne, e3]; rfl
    go_enter Tryz.func14, Tryz.ntmps14
    go_wp2_with fail
    go_ret
    exact ⟨congrArg (fun b => Ending.returned (.bool b)) (sameTp_no (fun h => ne_of_b e3 (congrArg Tp.z h))).symm, HS.out.below⟩
   | true =>
    have f3 : (l3 != k3) = false := by rw [bne, e3]; rfl
    by_cases h1 : n ≠ m
    ·have d1 : ((n : Int) != (m : Int)) = true := by simp; omega
     have d2 : (n != m) = true := by simp; omega
     have HNE := hide (show (l.map Sg.p) ≠ (k.map Sg.p) from fun h => by
      have := congrArg List.length h
      rw [List.length_map, List.length_map, HL.out, HK.out] at this
      exact h1 this)
     clear h1
     go_enter Tryz.func14, Tryz.ntmps14
     go_wp2_with fail
     go_ret
     exact ⟨congrArg (fun b => Ending.returned (.bool b)) (sameTp_no (fun h => HNE.out (congrArg Tp.l h))).symm, HS.out.below⟩
    obtain rfl : n = m := Decidable.not_not.1 h1
    have HE := hide (And.intro (eq_of_b e1) (And.intro (eq_of_b e2) (eq_of_b e3)))
    clear h1 hm
    go_enter Tryz.func14, Tryz.ntmps14
    go_wp2_with fail
    clear e1 e2 e3 f1 f2 f3 cvA1 cvA2 cvA3 cvB1 cvB2 cvB3 ta0 ta2 ta3 tb0 tb2 tb3
    generalize World.alloc (World.alloc w _) _ = wb at HS HA HB HX HY ta1 tb1 ⊢
    go_loopw [45] (fun iv wr => ∃ (j : Nat), j ≤ n ∧ iv = .int .i64 (j : Int) ∧ (l.take j).map Sg.p = (k.take j).map Sg.p ∧ Hid (Below wb.heap.size wb wr)) (fun iv _ => n - (intOf iv).toNat)
    case atStart => exact ⟨0, by omega, rfl, rfl, Below.refl _ _⟩
    case round =>
     obtain ⟨j, hj, rfl, hpr, HB0⟩ := hrel
     have HPR := hide hpr
     clear hpr
     by_cases hlt : j < n
     ·have d0 : decide ((j : Int) < (n : Int)) = true := by simp; omega
      have d0' : decide (j < n) = true := by simp; omega
      have jn : (j : Int) < (n : Int) := by omega
      have hlk : l[j]? = some (l[j]'(by have := HL.out; omega)) := List.getElem?_eq_getElem _
      have hkk : k[j]? = some (k[j]'(by have := HK.out; omega)) := List.getElem?_eq_getElem _
      obtain ⟨b1, o1, rfl, h8, hc1⟩ := sg_at HA.out hlk
      obtain ⟨b2, o2, rfl, h9, hc2⟩ := sg_at HB.out hkk
      have HOX := hide (HX.out _ (List.mem_of_getElem? hlk))
      have HOY := hide (HY.out _ (List.mem_of_getElem? hkk))
      have HT1 := hide (show (l.take (j + 1)).map Sg.p = (l.take j).map Sg.p ++ [(l[j]'(by have := HL.out; omega)).p] by rw [List.take_add_one, hlk, List.map_append]; rfl)
      have HT2 := hide (show (k.take (j + 1)).map Sg.p = (k.take j).map Sg.p ++ [(k[j]'(by have := HK.out; omega)).p] by rw [List.take_add_one, hkk, List.map_append]; rfl)
      have HG1 := hide (show (l.map Sg.p)[j]? = some (l[j]'(by have := HL.out; omega)).p by rw [List.getElem?_map, hlk]; rfl)
      have HG2 := hide (show (k.map Sg.p)[j]? = some (k[j]'(by have := HK.out; omega)).p by rw [List.getElem?_map, hkk]; rfl)
      generalize l[j]'(_) = x at hlk hc1 HOX HT1 HG1
      generalize k[j]'(_) = y at hkk hc2 HOY HT2 HG2
      obtain ⟨⟨A1', ca1, l1'⟩, ⟨A2', ca2, l2'⟩, ⟨A3', ca3, l3'⟩, ⟨A4', ca4, l4'⟩, ⟨A5', ca5, l5'⟩⟩ := x
      obtain ⟨⟨B1', cb1, k1'⟩, ⟨B2', cb2, k2'⟩, ⟨B3', cb3, k3'⟩, ⟨B4', cb4, k4'⟩, ⟨B5', cb5, k5'⟩⟩ := y
      clear hlk hkk
      have HS1 := hide (HS.out.call HB0.out)
      have ta1 : _ = some (Value.slice _ n c) := HS1.out.cell 1 rfl 1
      have tb1 : _ = some (Value.slice _ n d) := HS1.out.cell 0 rfl 1
      obtain ⟨x0, x1, x2, x3, x4⟩ := hc1 _ HB0.out
      have HW := hide (St.init wr NoB)
      have M0 := True.intro
      go_upto_region 6 with (clear M0; refine wl_storeC rfl rfl (HW.out.alloc _ _) 0 rfl (vs := [.slice A1' l1'.length ca1, .slice A2' l2'.length ca2, .slice A3' l3'.length ca3, .slice A4' l4'.length ca4, .slice A5' l5'.length ca5]) szSigned (Nat.le_refl _) rfl rfl one5 ?_; intro w5 hS5; have HW := hide hS5; clear hS5)
      clear x0 x1 x2 x3 x4 ta1 tb1
      have HS2 := hide (HS1.out.call HW.out.below)
      have tb1 : _ = some (Value.slice _ n d) := HS2.out.cell 0 rfl 1
      obtain ⟨y0, y1, y2, y3, y4⟩ := hc2 _ (bnx HB0.out HW.out.below)
      have M0 := True.intro
      go_upto_region 7 with (clear M0; refine wl_storeC rfl rfl (HW.out.alloc _ _) 0 rfl (vs := [.slice B1' k1'.length cb1, .slice B2' k2'.length cb2, .slice B3' k3'.length cb3, .slice B4' k4'.length cb4, .slice B5' k5'.length cb5]) szSigned (Nat.le_refl _) rfl rfl one5 ?_; intro w6 hS5; have HW := hide hS5; clear hS5)
      clear y0 y1 y2 y3 y4 hc1 hc2 tb1
      have HBW := hide (bnx HB0.out HW.out.below)
      have x0 : _ = some (Value.slice A1' l1'.length ca1) := HW.out.cell 1 rfl 0
      have x1 : _ = some (Value.slice A2' l2'.length ca2) := HW.out.cell 1 rfl 1
      have x2 : _ = some (Value.slice A3' l3'.length ca3) := HW.out.cell 1 rfl 2
      have x3 : _ = some (Value.slice A4' l4'.length ca4) := HW.out.cell 1 rfl 3
      have x4 : _ = some (Value.slice A5' l5'.length ca5) := HW.out.cell 1 rfl 4
      have cwA1 := run_str (P := Tryz.prog) Tryz.underlying22 Tryz.underlying5 Tryz.underlying9 (show Rd w6 (.slice A1' l1'.length ca1) 1 l1'.length (bvs l1') from (HOX.out.on HBW.out).b)
      have cwA2 := run_str (P := Tryz.prog) Tryz.underlying22 Tryz.underlying5 Tryz.underlying9 (show Rd w6 (.slice A2' l2'.length ca2) 1 l2'.length (bvs l2') from (HOX.out.on HBW.out).n)
      have cwA3 := run_str (P := Tryz.prog) Tryz.underlying22 Tryz.underlying5 Tryz.underlying9 (show Rd w6 (.slice A3' l3'.length ca3) 1 l3'.length (bvs l3') from (HOX.out.on HBW.out).s)
      have cwA4 := run_str (P := Tryz.prog) Tryz.underlying22 Tryz.underlying5 Tryz.underlying9 (show Rd w6 (.slice A4' l4'.length ca4) 1 l4'.length (bvs l4') from (HOX.out.on HBW.out).k)
      have cwA5 := run_str (P := Tryz.prog) Tryz.underlying22 Tryz.underlying5 Tryz.underlying9 (show Rd w6 (.slice A5' l5'.length ca5) 1 l5'.length (bvs l5') from (HOX.out.on HBW.out).v)
      have y0 : _ = some (Value.slice B1' k1'.length cb1) := HW.out.cell 0 rfl 0
      have y1 : _ = some (Value.slice B2' k2'.length cb2) := HW.out.cell 0 rfl 1
      have y2 : _ = some (Value.slice B3' k3'.length cb3) := HW.out.cell 0 rfl 2
      have y3 : _ = some (Value.slice B4' k4'.length cb4) := HW.out.cell 0 rfl 3
      have y4 : _ = some (Value.slice B5' k5'.length cb5) := HW.out.cell 0 rfl 4
      have cwB1 := run_str (P := Tryz.prog) Tryz.underlying22 Tryz.underlying5 Tryz.underlying9 (show Rd w6 (.slice B1' k1'.length cb1) 1 k1'.length (bvs k1') from (HOY.out.on HBW.out).b)
      have cwB2 := run_str (P := Tryz.prog) Tryz.underlying22 Tryz.underlying5 Tryz.underlying9 (show Rd w6 (.slice B2' k2'.length cb2) 1 k2'.length (bvs k2') from (HOY.out.on HBW.out).n)
      have cwB3 := run_str (P := Tryz.prog) Tryz.underlying22 Tryz.underlying5 Tryz.underlying9 (show Rd w6 (.slice B3' k3'.length cb3) 1 k3'.length (bvs k3') from (HOY.out.on HBW.out).s)
      have cwB4 := run_str (P := Tryz.prog) Tryz.underlying22 Tryz.underlying5 Tryz.underlying9 (show Rd w6 (.slice B4' k4'.length cb4) 1 k4'.length (bvs k4') from (HOY.out.on HBW.out).k)
      have cwB5 := run_str (P := Tryz.prog) Tryz.underlying22 Tryz.underlying5 Tryz.underlying9 (show Rd w6 (.slice B5' k5'.length cb5) 1 k5'.length (bvs k5') from (HOY.out.on HBW.out).v)
      cases g1 : (l1' == k1') with
      | false =>
       have f1 : (l1' != k1') = true := by rw [bne, g1]; rfl
       go_wp2_with fail
       go_ret
       exact ⟨congrArg (fun b => Ending.returned (.bool b)) (sameTp_no (fun h => ne_of_b g1 (congrArg Sp.b (by
        have h1 := HG1.out
        rw [show l.map Sg.p = k.map Sg.p from congrArg Tp.l h, HG2.out] at h1
        exact (Option.some.inj h1).symm : Sp.mk l1' l2' l3' l4' l5' = Sp.mk k1' k2' k3' k4' k5')))).symm, bnx HS.out.below HBW.out⟩
      | true =>
       have f1 : (l1' != k1') = false := by rw [bne, g1]; rfl
       cases g2 : (l2' == k2') with
       | false =>
        have f2 : (l2' != k2') = true := by rw [bne, g2]; rfl
        go_wp2_with fail
        go_ret
        exact ⟨congrArg (fun b => Ending.returned (.bool b)) (sameTp_no (fun h => ne_of_b g2 (congrArg Sp.n (by
         have h1 := HG1.out
         rw [show l.map Sg.p = k.map Sg.p from congrArg Tp.l h, HG2.out] at h1
         exact (Option.some.inj h1).symm : Sp.mk l1' l2' l3' l4' l5' = Sp.mk k1' k2' k3' k4' k5')))).symm, bnx HS.out.below HBW.out⟩
       | true =>
        have f2 : (l2' != k2') = false := by rw [bne, g2]; rfl
        cases g3 : (l3' == k3') with
        | false =>
         have f3 : (l3' != k3') = true := by rw [bne, g3]; rfl
         go_wp2_with fail
         go_ret
         exact ⟨congrArg (fun b => Ending.returned (.bool b)) (sameTp_no (fun h => ne_of_b g3 (congrArg Sp.s (by
          have h1 := HG1.out
          rw [show l.map Sg.p = k.map Sg.p from congrArg Tp.l h, HG2.out] at h1
          exact (Option.some.inj h1).symm : Sp.mk l1' l2' l3' l4' l5' = Sp.mk k1' k2' k3' k4' k5')))).symm, bnx HS.out.below HBW.out⟩
        | true =>
         have f3 : (l3' != k3') = false := by rw [bne, g3]; rfl
         cases g4 : (l4' == k4') with
         | false =>
          have f4 : (l4' != k4') = true := by rw [bne, g4]; rfl
          go_wp2_with fail
          go_ret
          exact ⟨congrArg (fun b => Ending.returned (.bool b)) (sameTp_no (fun h => ne_of_b g4 (congrArg Sp.k (by
           have h1 := HG1.out
           rw [show l.map Sg.p = k.map Sg.p from congrArg Tp.l h, HG2.out] at h1
           exact (Option.some.inj h1).symm : Sp.mk l1' l2' l3' l4' l5' = Sp.mk k1' k2' k3' k4' k5')))).symm, bnx HS.out.below HBW.out⟩
         | true =>
          have f4 : (l4' != k4') = false := by rw [bne, g4]; rfl
          cases g5 : (l5' == k5') with
          | false =>
           have f5 : (l5' != k5') = true := by rw [bne, g5]; rfl
           go_wp2_with fail
           go_ret
           exact ⟨congrArg (fun b => Ending.returned (.bool b)) (sameTp_no (fun h => ne_of_b g5 (congrArg Sp.v (by
            have h1 := HG1.out
            rw [show l.map Sg.p = k.map Sg.p from congrArg Tp.l h, HG2.out] at h1
            exact (Option.some.inj h1).symm : Sp.mk l1' l2' l3' l4' l5' = Sp.mk k1' k2' k3' k4' k5')))).symm, bnx HS.out.below HBW.out⟩
          | true =>
           have f5 : (l5' != k5') = false := by rw [bne, g5]; rfl
           have HEQ := hide (show Sp.mk l1' l2' l3' l4' l5' = Sp.mk k1' k2' k3' k4' k5' by rw [eq_of_b g1, eq_of_b g2, eq_of_b g3, eq_of_b g4, eq_of_b g5])
           go_wp2_with fail
           go_roundw
           case rel => exact ⟨j + 1, by omega, by go_num, (by rw [HT1.out, HT2.out, HPR.out]; exact congrArg (fun z => List.map Sg.p (List.take j k) ++ [z]) HEQ.out), HBW.out⟩
           case measure => (simp [intOf]) <;> omega
     ·obtain rfl : j = n := by omega
      have d0 : decide ((j : Int) < (j : Int)) = false := by simp
      have d0' : decide (j < j) = false := by simp
      have hp := HPR.out
      rw [List.take_of_length_le (by rw [HL.out]; omega), List.take_of_length_le (by rw [HK.out]; omega)] at hp
      have HP := hide hp
      clear hp
      go_wp2_with fail
      go_ret
      exact ⟨congrArg (fun b => Ending.returned (.bool b)) (sameTp_yes (by rw [HE.out.1, HE.out.2.1, HE.out.2.2, HP.out])).symm, bnx HS.out.below HB0.out⟩
end Go.Proofs.YtnohmgpmmhlloaaGreatDoor

namespace Go.Proofs.YtnohmgpmmhlloaaGreatDoor
open Go.RowKit
set_option linter.unusedSimpArgs false
noncomputable def issueRz (y nx b : List UInt8) : Rz := if y.length ≠ 32 then ⟨1, tp0⟩ else if nx.length ≠ 32 then ⟨1, tp0⟩ else ⟨0, issueK y nx b⟩
theorem issue_any (Ay Ax A : Option Addr) (m1 m2 cy cx n c : Nat) (y nx l : List UInt8) (w : World) (hy : y.length = m1) (hx : nx.length = m2) (hl : l.length = n) (hn : n ≤ 2000) (hry : Rd w (.slice Ay m1 cy) 1 m1 (bvs y)) (hrx : Rd w (.slice Ax m2 cx) 1 m2 (bvs nx)) (hr : Rd w (.slice A n c) 1 n (bvs l)) :
  Calls Tryz.prog 9 #[.slice Ay m1 cy, .slice Ax m2 cx, .slice A n c] w (TkQ w (issueRz y nx l)) := by
 unfold issueRz
 by_cases h1 : y.length ≠ 32
 ·rw [if_pos h1]
  exact (issue_bad1 _ _ _ _ _ _ _ _ _ _ (by omega)).mono fun _ _ h => tkQ_no h
 rw [if_neg h1]
 obtain rfl : m1 = 32 := by omega
 by_cases h2 : nx.length ≠ 32
 ·rw [if_pos h2]
  exact (issue_bad2 _ _ _ _ _ _ _ _ _ (by omega)).mono fun _ _ h => tkQ_no h
 rw [if_neg h2]
 obtain rfl : m2 = 32 := by omega
 exact (issue_okG _ _ _ _ _ _ _ _ _ _ _ hy hx hl (by omega) hry hrx hr).mono fun _ _ h => tkQ_ok h
theorem issueR_any (Ay Ax A : Option Addr) (m1 m2 cy cx n c : Nat) (y nx l : List UInt8) (w : World) (hy : y.length = m1) (hx : nx.length = m2) (hl : l.length = n) (hn : n ≤ 2000) (hry : Rd w (.slice Ay m1 cy) 1 m1 (bvs y)) (hrx : Rd w (.slice Ax m2 cx) 1 m2 (bvs nx)) (hr : Rd w (.slice A n c) 1 n (bvs l)) :
  Calls Tryz.prog 13 #[.slice Ay m1 cy, .slice Ax m2 cx, .slice A n c] w (TkQ w (issueRz y nx l)) := by
 unfold issueRz
 by_cases h1 : y.length ≠ 32
 ·rw [if_pos h1]
  exact (issueR_bad1 _ _ _ _ _ _ _ _ _ _ (by omega)).mono fun _ _ h => tkQ_no h
 rw [if_neg h1]
 obtain rfl : m1 = 32 := by omega
 by_cases h2 : nx.length ≠ 32
 ·rw [if_pos h2]
  exact (issueR_bad2 _ _ _ _ _ _ _ _ _ (by omega)).mono fun _ _ h => tkQ_no h
 rw [if_neg h2]
 obtain rfl : m2 = 32 := by omega
 exact (issueR_ok _ _ _ _ _ _ _ _ _ _ _ hy hx hl hn hry hrx hr).mono fun _ _ h => tkQ_ok h
def TkSH (H : List Chunk) (w : World) (c : Nat) (p : Tp) (m1 n m2 m3 : Nat) (e : Ending) (w' : World) : Prop := ∃ B1 d1 X x B2 d2 B3 d3 G, e = .returned (.tuple #[.agg #[.slice B1 m1 d1, .slice X n x, .slice B2 m2 d2, .slice B3 m3 d3], .int .i64 (c : Int)]) ∧ Laid (G ++ H) p B1 m1 d1 X n x B2 m2 d2 B3 m3 d3 ∧ St w NoB w' G
theorem tkSH_of {H : List Chunk} {w : World} {r : Rz} {e : Ending} {w' : World} {m1 n m2 m3 : Nat} (h : TkH H w r e w') (h1 : r.p.r.length = m1) (h2 : r.p.l.length = n) (h3 : r.p.e.length = m2) (h4 : r.p.z.length = m3) : TkSH H w r.c r.p m1 n m2 m3 e w' := by
 obtain ⟨⟨⟨B1, d1, k1⟩, X, x, zs, ⟨B2, d2, k2⟩, ⟨B3, d3, k3⟩⟩, G, rfl, hp, hg, hS⟩ := h
 replace hp : Tp.mk k1 (zs.map Sg.p) k2 k3 = r.p := hp
 have q1 : k1.length = m1 := by rw [← h1, ← hp]
 have q2 : zs.length = n := by rw [← h2, ← hp]; exact (List.length_map ..).symm
 have q3 : k2.length = m2 := by rw [← h3, ← hp]
 have q4 : k3.length = m3 := by rw [← h4, ← hp]
 refine ⟨B1, d1, X, x, B2, d2, B3, d3, G, ?_, ⟨k1, k2, k3, zs, q1, q2, q3, q4, hp, hg⟩, hS⟩
 show Ending.returned (.tuple #[.agg #[.slice B1 k1.length d1, .slice X zs.length x, .slice B2 k2.length d2, .slice B3 k3.length d3], _]) = _
 rw [q1, q2, q3, q4]
def Tp.few (p : Tp) : Prop := p.r.length ≤ 200 ∧ p.e.length ≤ 200 ∧ p.z.length ≤ 200 ∧ p.l.length ≤ 100 ∧ ∀ x ∈ p.l, x.b.length ≤ 900 ∧ x.n.length ≤ 900 ∧ x.s.length ≤ 900 ∧ x.k.length ≤ 900 ∧ x.v.length ≤ 900
theorem Tp.few.sm {p : Tp} (h : p.few) : p.sm := by
 obtain ⟨h1, h2, h3, h4, h5⟩ := h
 exact ⟨by omega, by omega, by omega, by omega, fun x hx => by obtain ⟨a, b, c, d, e⟩ := h5 x hx; exact ⟨by omega, by omega, by omega, by omega, by omega⟩⟩
theorem few_mem {p : Tp} {zs : List Sg} (h : p.few) (hz : zs.map Sg.p = p.l) : ∀ x ∈ zs, x.b.b.length ≤ 900 ∧ x.n.b.length ≤ 900 ∧ x.s.b.length ≤ 900 ∧ x.k.b.length ≤ 900 ∧ x.v.b.length ≤ 900 := fun x hx => h.2.2.2.2 x.p (by rw [← hz]; exact List.mem_map_of_mem hx)
section
variable {w0 w : World} {M : Nat → Prop} {H : List Chunk} {p : Tp} {B1 X B2 B3 : Option Addr} {m1 d1 n x m2 d2 m3 d3 : Nat} {V1 Y V2 V3 : Option Addr} {M1 e1 N y M2 e2 M3 e3 : Nat}
theorem same_in (hS : St w0 M w H) (hL : Laid H p B1 m1 d1 X n x B2 m2 d2 B3 m3 d3) (hL2 : Laid H p V1 M1 e1 Y N y V2 M2 e2 V3 M3 e3) (hsm : p.few) :
  Calls Tryz.prog 22 #[.agg #[.slice B1 m1 d1, .slice X n x, .slice B2 m2 d2, .slice B3 m3 d3], .agg #[.slice V1 M1 e1, .slice Y N y, .slice V2 M2 e2, .slice V3 M3 e3]] w fun e w' => e = .returned (.bool true) ∧ Below w.heap.size w w' := by
 obtain ⟨zs, a1, a2, a3, a4, a5, r1, r2, r3, r4, hok⟩ := hL.open hS
 obtain ⟨ys, b1, b2, b3, b4, b5, s1, s2, s3, s4, hoy⟩ := hL2.open hS
 have hn : n ≤ 1000 := by have := hsm.2.2.2.1; rw [← a2, List.length_map] at this; omega
 have hm : N ≤ 1000 := by have := hsm.2.2.2.1; rw [← b2, List.length_map] at this; omega
 refine (same_any _ _ _ _ _ _ _ _ _ _ _ _ _ _ _ _ _ _ _ _ _ _ _ _ _ _ _ _ _ _ zs ys w a1 b1 hn hm r1 r2 r3 r4 hok s1 s2 s3 s4 hoy).mono fun e w' h => ?_
 rw [sameTp_yes (by rw [a2, b2])] at h
 exact h
theorem sameR_in (hS : St w0 M w H) (hL : Laid H p B1 m1 d1 X n x B2 m2 d2 B3 m3 d3) (hL2 : Laid H p V1 M1 e1 Y N y V2 M2 e2 V3 M3 e3) (hsm : p.few) :
  Calls Tryz.prog 14 #[.agg #[.slice B1 m1 d1, .slice X n x, .slice B2 m2 d2, .slice B3 m3 d3], .agg #[.slice V1 M1 e1, .slice Y N y, .slice V2 M2 e2, .slice V3 M3 e3]] w fun e w' => e = .returned (.bool true) ∧ Below w.heap.size w w' := by
 obtain ⟨zs, a1, a2, a3, a4, a5, r1, r2, r3, r4, hok⟩ := hL.open hS
 obtain ⟨ys, b1, b2, b3, b4, b5, s1, s2, s3, s4, hoy⟩ := hL2.open hS
 have hn : n ≤ 1000 := by have := hsm.2.2.2.1; rw [← a2, List.length_map] at this; omega
 have hm : N ≤ 1000 := by have := hsm.2.2.2.1; rw [← b2, List.length_map] at this; omega
 refine (sameR_tok _ _ _ _ _ _ _ _ _ _ _ _ _ _ _ _ _ _ _ _ _ _ _ _ _ _ _ _ _ _ zs ys w a1 b1 hn hm r1 r2 r3 r4 hok s1 s2 s3 s4 hoy).mono fun e w' h => ?_
 rw [sameTp_yes (by rw [a2, b2])] at h
 exact h
theorem appR_in {nx y1 y4 y5 : List UInt8} {r : Rz} {Ax E1 E4 E5 : Option Addr} {q cx n1 f1 n4 f4 n5 f5 : Nat} (hS : St w0 M w H) (hL : Laid H p B1 m1 d1 X n x B2 m2 d2 B3 m3 d3) (hx : nx.length = q) (hg1 : y1.length = n1) (hg4 : y4.length = n4) (hg5 : y5.length = n5) (hn1 : n1 ≤ 1000) (hn4 : n4 ≤ 900) (hn5 : n5 ≤ 900) (hrx : Rd w (.slice Ax q cx) 1 q (bvs nx)) (he1 : Rd w (.slice E1 n1 f1) 1 n1 (bvs y1)) (he4 : Rd w (.slice E4 n4 f4) 1 n4 (bvs y4)) (he5 : Rd w (.slice E5 n5 f5) 1 n5 (bvs y5))
  (hr : addRz p nx ⟨y1, [], [], y4, y5⟩ = r) (h1 : r.p.r.length = M1) (h2 : r.p.l.length = N) (h3 : r.p.e.length = M2) (h4 : r.p.z.length = M3) :
  Calls Tryz.prog 18 #[.agg #[.slice B1 m1 d1, .slice X n x, .slice B2 m2 d2, .slice B3 m3 d3], .slice Ax q cx, .slice E1 n1 f1, .slice E4 n4 f4, .slice E5 n5 f5] w (TkSH H w r.c r.p M1 N M2 M3) := by
 obtain ⟨zs, a1, a2, a3, a4, a5, r1, r2, r3, r4, hok⟩ := hL.open hS
 obtain ⟨k1, k2, k3, zs', i1, i2, i3, i4, i5, hin⟩ := hL
 obtain ⟨pr, pl, pe, pz⟩ := p
 obtain ⟨j1, j2, j3, j4⟩ := Tp.mk.inj i5
 subst j1 j2 j3 j4
 have hk := hin.ok hS
 have h := appR_any H B1 B2 B3 X Ax E1 E4 E5 m1 m2 m3 n q n1 n4 n5 d1 d2 d3 x cx f1 f4 f5 k1 k2 k3 nx zs' y1 y4 y5 w i3 i2 hx hg1 hg4 hg5 hn1 hn4 hn5 r1 r2 r3 (by subst i2; exact hk.row) hrx he1 he4 he5 i1 i4 hin
 rw [hr] at h
 exact h.mono fun _ _ h => tkSH_of h h1 h2 h3 h4
theorem sealR_in {r : Rz} (hS : St w0 M w H) (hL : Laid H p B1 m1 d1 X n x B2 m2 d2 B3 m3 d3) (hsm : p.few) (hr : sealRz p = r) (h1 : r.p.r.length = M1) (h2 : r.p.l.length = N) (h3 : r.p.e.length = M2) (h4 : r.p.z.length = M3) :
  Calls Tryz.prog 20 #[.agg #[.slice B1 m1 d1, .slice X n x, .slice B2 m2 d2, .slice B3 m3 d3]] w (TkSH H w r.c r.p M1 N M2 M3) := by
 obtain ⟨zs, a1, a2, a3, a4, a5, r1, r2, r3, r4, hok⟩ := hL.open hS
 obtain ⟨k1, k2, k3, zs', i1, i2, i3, i4, i5, hin⟩ := hL
 obtain ⟨pr, pl, pe, pz⟩ := p
 obtain ⟨j1, j2, j3, j4⟩ := Tp.mk.inj i5
 subst j1 j2 j3 j4
 have hk := hin.ok hS
 have hn : n ≤ 100 := by have := hsm.2.2.2.1; rw [← a2, List.length_map] at this; omega
 have h := sealR_any H B1 B2 B3 X m1 m2 m3 n d1 d2 d3 x k1 k2 k3 zs' w i1 i3 i4 i2 hn (fun x hx => by obtain ⟨a, b, c, _, _⟩ := few_mem hsm rfl x hx; exact ⟨by omega, b, c⟩) r2 (by subst i2; exact hk.row) hk.l hin
 rw [hr] at h
 exact h.mono fun _ _ h => tkSH_of h h1 h2 h3 h4
theorem seal_in {r : Rz} (hS : St w0 M w H) (hL : Laid H p B1 m1 d1 X n x B2 m2 d2 B3 m3 d3) (hsm : p.few) (hr : sealRz p = r) (h1 : r.p.r.length = M1) (h2 : r.p.l.length = N) (h3 : r.p.e.length = M2) (h4 : r.p.z.length = M3) :
  Calls Tryz.prog 19 #[.agg #[.slice B1 m1 d1, .slice X n x, .slice B2 m2 d2, .slice B3 m3 d3]] w (TkS w r.c r.p M1 N M2 M3) := by
 obtain ⟨zs, a1, a2, a3, a4, a5, r1, r2, r3, r4, hok⟩ := hL.open hS
 obtain ⟨pr, pl, pe, pz⟩ := p
 subst a2
 have hn : n ≤ 100 := by have := hsm.2.2.2.1; rw [List.length_map] at this; omega
 have h := seal_any B1 B2 B3 X m1 m2 m3 n d1 d2 d3 x pr pe pz zs w a3 a4 a5 a1 hn (by have := hsm.1; rw [← a3]; exact Nat.le_trans this (by decide)) (by have := hsm.2.2.1; rw [← a5]; exact Nat.le_trans this (by decide)) (sm_mem hsm.sm rfl) (fun x hx => by obtain ⟨a, b, c, d, e⟩ := few_mem hsm rfl x hx; exact ⟨by omega, by omega, by omega, by omega, by omega⟩) r1 r2 r3 r4 hok
 rw [hr] at h
 exact h.mono fun _ _ h => tkS_of h h1 h2 h3 h4
theorem av_in {nx y1 y4 y5 : List UInt8} {r : Rz} {Ax E1 E4 E5 : Option Addr} {q cx n1 f1 n4 f4 n5 f5 : Nat} (hS : St w0 M w H) (hL : Laid H p B1 m1 d1 X n x B2 m2 d2 B3 m3 d3) (hsm : p.few) (hx : nx.length = q) (hg1 : y1.length = n1) (hg4 : y4.length = n4) (hg5 : y5.length = n5) (hrx : Rd w (.slice Ax q cx) 1 q (bvs nx)) (he1 : Rd w (.slice E1 n1 f1) 1 n1 (bvs y1)) (he4 : Rd w (.slice E4 n4 f4) 1 n4 (bvs y4)) (he5 : Rd w (.slice E5 n5 f5) 1 n5 (bvs y5))
  (hr : avRz p nx y1 y4 y5 = r) (h1 : r.p.r.length = M1) (h2 : r.p.l.length = N) (h3 : r.p.e.length = M2) (h4 : r.p.z.length = M3) :
  Calls Tryz.prog 17 #[.agg #[.slice B1 m1 d1, .slice X n x, .slice B2 m2 d2, .slice B3 m3 d3], .slice Ax q cx, .slice E1 n1 f1, .slice E4 n4 f4, .slice E5 n5 f5] w (TkS w r.c r.p M1 N M2 M3) := by
 obtain ⟨zs, a1, a2, a3, a4, a5, r1, r2, r3, r4, hok⟩ := hL.open hS
 obtain ⟨pr, pl, pe, pz⟩ := p
 subst a2
 have h := av_any B1 B2 B3 X Ax E1 E4 E5 m1 m2 m3 n q n1 n4 n5 d1 d2 d3 x cx f1 f4 f5 pr pe pz nx zs y1 y4 y5 w a3 a4 a5 a1 hx hg1 hg4 hg5 (by have := hsm.1; rw [← a3]; exact Nat.le_trans this (by decide)) (by have := hsm.2.2.1; rw [← a5]; exact Nat.le_trans this (by decide)) (sm_mem hsm.sm rfl) r1 r2 r3 r4 hok hrx he1 he4 he5
 rw [hr] at h
 exact h.mono fun _ _ h => tkS_of h h1 h2 h3 h4
end
theorem issue_inS {Ay Ax A : Option Addr} {m1 m2 cy cx n c : Nat} {y nx l : List UInt8} {r : Rz} {M1 N M2 M3 : Nat} (w : World) (hy : y.length = m1) (hx : nx.length = m2) (hl : l.length = n) (hn : n ≤ 2000) (hry : Rd w (.slice Ay m1 cy) 1 m1 (bvs y)) (hrx : Rd w (.slice Ax m2 cx) 1 m2 (bvs nx)) (hr : Rd w (.slice A n c) 1 n (bvs l)) (hz : issueRz y nx l = r) (h1 : r.p.r.length = M1) (h2 : r.p.l.length = N) (h3 : r.p.e.length = M2) (h4 : r.p.z.length = M3) :
  Calls Tryz.prog 9 #[.slice Ay m1 cy, .slice Ax m2 cx, .slice A n c] w (TkS w r.c r.p M1 N M2 M3) := by
 have h := issue_any Ay Ax A m1 m2 cy cx n c y nx l w hy hx hl hn hry hrx hr
 rw [hz] at h
 exact h.mono fun _ _ h => tkS_of h h1 h2 h3 h4
theorem issueR_inS {Ay Ax A : Option Addr} {m1 m2 cy cx n c : Nat} {y nx l : List UInt8} {r : Rz} {M1 N M2 M3 : Nat} (w : World) (hy : y.length = m1) (hx : nx.length = m2) (hl : l.length = n) (hn : n ≤ 2000) (hry : Rd w (.slice Ay m1 cy) 1 m1 (bvs y)) (hrx : Rd w (.slice Ax m2 cx) 1 m2 (bvs nx)) (hr : Rd w (.slice A n c) 1 n (bvs l)) (hz : issueRz y nx l = r) (h1 : r.p.r.length = M1) (h2 : r.p.l.length = N) (h3 : r.p.e.length = M2) (h4 : r.p.z.length = M3) :
  Calls Tryz.prog 13 #[.slice Ay m1 cy, .slice Ax m2 cx, .slice A n c] w (TkS w r.c r.p M1 N M2 M3) := by
 have h := issueR_any Ay Ax A m1 m2 cy cx n c y nx l w hy hx hl hn hry hrx hr
 rw [hz] at h
 exact h.mono fun _ _ h => tkS_of h h1 h2 h3 h4
theorem rot1 {w0 w : World} {M : Nat → Prop} {G G2 : List Chunk} {a : Chunk} (h : St w0 M w (G2 ++ (a :: G))) : St w0 M w (a :: (G ++ G2)) := St.rot G2 (a :: G) h
theorem rot2 {w0 w : World} {M : Nat → Prop} {G G2 : List Chunk} {a b : Chunk} (h : St w0 M w (G2 ++ (a :: b :: G))) : St w0 M w (a :: b :: (G ++ G2)) := St.rot G2 (a :: b :: G) h
theorem few0 : tp0.few := ⟨by decide, by decide, by decide, by decide, fun x hx => absurd hx List.not_mem_nil⟩
theorem issueRz_few {y nx b : List UInt8} (hb : b.length ≤ 200) : (issueRz y nx b).p.few ∧ (issueRz y nx b).p.l.length ≤ 1 := by
 unfold issueRz
 split
 ·exact ⟨few0, by decide⟩
 ·split
  ·exact ⟨few0, by decide⟩
  ·rename_i h1 h2
   refine ⟨⟨?_, ?_, ?_, ?_, fun x hx => ?_⟩, ?_⟩
   ·show (pubL y).length ≤ _; rw [pubL_len]; decide
   ·show nx.length ≤ _; omega
   ·show 0 ≤ _; decide
   ·show 1 ≤ _; decide
   ·obtain rfl := List.mem_singleton.1 (show x ∈ [_] from hx)
    refine ⟨?_, ?_, ?_, ?_, ?_⟩
    ·show b.length ≤ _; omega
    ·show (pubL _).length ≤ _; rw [pubL_len]; decide
    ·show (sigL _ _).length ≤ _; rw [sigL_len]; decide
    ·show 0 ≤ _; decide
    ·show 0 ≤ _; decide
   ·show 1 ≤ 1; decide
theorem addRz_few {p : Tp} {nx : List UInt8} {x : Sp} (h : p.few) (h2 : p.l.length ≤ 90) (hx : x.b.length ≤ 900 ∧ x.k.length ≤ 900 ∧ x.v.length ≤ 900) : (addRz p nx x).p.few := by
 unfold addRz
 split
 ·exact few0
 ·split
  ·exact few0
  ·split
   ·exact few0
   ·split
    ·exact few0
    ·split
     ·exact few0
     ·rename_i q1 q2 q3 q4 q5
      obtain ⟨f1, f2, f3, f4, f5⟩ := h
      refine ⟨f1, ?_, f3, ?_, fun z hz => ?_⟩
      ·show nx.length ≤ _; omega
      ·show (p.l ++ [_]).length ≤ _
       rw [List.length_append]
       show p.l.length + 1 ≤ _
       omega
      ·rcases List.mem_append.1 (show z ∈ p.l ++ [_] from hz) with hz | hz
       ·exact f5 z hz
       ·obtain rfl := List.mem_singleton.1 hz
        refine ⟨hx.1, ?_, ?_, hx.2.1, hx.2.2⟩
        ·show (pubL _).length ≤ _; rw [pubL_len]; decide
        ·show (sigL _ _).length ≤ _; rw [sigL_len]; decide
theorem sealRz_few {p : Tp} (h : p.few) : (sealRz p).p.few := by
 unfold sealRz
 split
 ·exact few0
 ·split
  ·exact few0
  ·obtain ⟨f1, f2, f3, f4, f5⟩ := h
   exact ⟨f1, by show 0 ≤ _; decide, by show (sigL _ _).length ≤ _; rw [sigL_len]; decide, f4, f5⟩
end Go.Proofs.YtnohmgpmmhlloaaGreatDoor
