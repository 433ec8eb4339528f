/-
  The page's carry.
-/
import Derived.Test.YtdihedhhkcakoaaNa
import Derived.Test.YtdihedhhkcakoaaTx
import Derived.Test.YtdihedhhkcakoaaKk
namespace Go.Proofs.Ytdihedhhkcakoaa
open Go.RowKit
set_option linter.unusedSimpArgs false

def ivs (xs : List Int) : List Value := xs.map (.int .i64 ·)
theorem ivs_len (xs : List Int) : (ivs xs).length = xs.length := by simp [ivs]
theorem ivs_get {xs : List Int} {k : Nat} {x : Int} (h : xs[k]? = some x) : (ivs xs).toArray[k]? = some (.int .i64 x) := by simp [ivs, h]
theorem ivs_set (xs : List Int) (k : Nat) (x : Int) : (ivs xs).toArray.setIfInBounds k (.int .i64 x) = (ivs (xs.set k x)).toArray := by simp [ivs, List.map_set]
theorem ivs_all (xs : List Int) : (ivs xs).toArray.all (·.oneCell') = true := by
  rw [Array.all_eq_true_iff_forall_mem]
  intro v hv
  simp only [ivs, List.mem_toArray, List.mem_map] at hv
  obtain ⟨x, _, rfl⟩ := hv
  rfl
def CyB (xs : List Int) : Prop := xs.length = 16 ∧ (∀ i, -1152921504606846976 ≤ xs.getD i 0 ∧ xs.getD i 0 ≤ 1152921504606846976 ∧ -1152921504606846976 ≤ ky xs i ∧ ky xs i ≤ 1152921504606846976) ∧ -72057594037927936 ≤ ky xs 16 ∧ ky xs 16 ≤ 72057594037927936
def CyRel (w : World) (xs : List Int) (iv : Value) (wr : World) : Prop :=
  ∃ i : Nat, i ≤ 16 ∧ iv = .int .i64 (i : Int) ∧ St w NoB wr [.cells (w.heap.size + 1) (ivs (List.replicate 16 0)).toArray 41, .cells w.heap.size (ivs (cyA xs i)).toArray 41]
set_option maxRecDepth 100000 in
set_option maxHeartbeats 1600000 in
theorem carry_any (xs : List Int) (w : World) (h : CyB xs) :
    Calls Try.prog 37 #[.agg (ivs xs).toArray] w fun e w' => e = .returned (.agg (ivs (carL xs)).toArray) ∧ Below w.heap.size w w' := by
  obtain ⟨hl, hb, h16⟩ := h
  have HB := hide hb
  have HL := hide hl
  have H16 := hide h16
  have HS0 := ((St.init w NoB).alloc (ivs xs).toArray 41).alloc (ivs (List.replicate 16 0)).toArray 41
  rw [size_alloc1] at HS0
  have HS := hide HS0
  clear HS0 hl hb h16
  go_enter Try.func37, Try.ntmps37
  go_wp2_with fail
  go_loopw [5] (fun i wr => CyRel w xs i wr) (fun i _ => 16 - (intOf i).toNat)
  case atStart => exact ⟨0, by omega, rfl, by rw [cyA_zero xs HL.out]; exact HS.out⟩
  case round =>
    clear HS
    obtain ⟨i, hi, rfl, hS⟩ := hrel
    have HS := hide hS
    by_cases hlt : i < 16
    · have d16 : decide ((i : Int) < 16) = true := by simp; omega
      have hy := HB.out i
      have hy1 := HB.out (i + 1)
      by_cases h15 : i < 15
      · have d15 : decide ((i : Int) < 15) = true := by simp; omega
        have c0 : wr.cell? ⟨w.heap.size, i, none⟩ = some (.int .i64 (xs.getD i 0 + ky xs i)) := by rw [hS.cell 1 rfl i]; exact ivs_get (cyA_at xs i hlt)
        have c1 : wr.cell? ⟨w.heap.size, i + 1, none⟩ = some (.int .i64 (xs.getD (i + 1) 0)) := by rw [hS.cell 1 rfl (i + 1)]; exact ivs_get (cyA_next xs HL.out i h15)
        have f0 := hS.free 1 rfl i
        have f1 := hS.free 1 rfl (i + 1)
        have HT := hide (cyA_step xs HL.out i h15)
        have hd : dy xs i = (xs.getD i 0 + ky xs i) % 65536 := rfl
        have hk : ky xs (i + 1) = (xs.getD i 0 + ky xs i) / 65536 := rfl
        have HD := hide hd
        have HK := hide hk
        obtain ⟨y, hy0⟩ : ∃ y, y = xs.getD i 0 + ky xs i := ⟨_, rfl⟩
        rw [← hy0] at c0
        have by0 : -2305843009213693952 ≤ y := by omega
        have by1 : y ≤ 2305843009213693952 := by omega
        have HY := hide hy0
        obtain ⟨z, hz0⟩ : ∃ z, z = xs.getD (i + 1) 0 := ⟨_, rfl⟩
        rw [← hz0] at c1
        have bz0 : -1152921504606846976 ≤ z := by omega
        have bz1 : z ≤ 1152921504606846976 := by omega
        have HZ := hide hz0
        have i15 : (i : Int) < 15 := by omega
        have i16 : (i : Int) < 16 := by omega
        clear hd hk hy0 hz0 hy hy1 hS
        go_wp2_with fail
        go_roundw
        case rel =>
          have h3 := ((HS.out.setCell 1 rfl i (.int .i64 (y + 65536))).setCell 1 rfl (i + 1) (.int .i64 (z + ((y + 65536) / 65536 - 1)))).setCell 1 rfl i (.int .i64 (y + 65536 - (y + 65536) / 65536 * 65536))
          have e1 : z + ((y + 65536) / 65536 - 1) = xs.getD (i + 1) 0 + ky xs (i + 1) := by rw [HK.out, ← HZ.out, ← HY.out]; omega
          have e2 : y + 65536 - (y + 65536) / 65536 * 65536 = dy xs i := by rw [HD.out, ← HY.out]; omega
          rw [e1, e2] at h3 ⊢
          simp only [List.set_cons_succ, List.set_cons_zero, ivs_set] at h3
          rw [List.set_comm _ _ (by omega : i ≠ i + 1), List.set_set, List.set_comm _ _ (by omega : i + 1 ≠ i)] at h3
          rw [List.set_comm _ _ (by omega : i ≠ i + 1), HT.out] at h3
          exact ⟨i + 1, by omega, by go_num, h3⟩
        case measure => (simp [intOf]) <;> omega
      · obtain rfl : i = 15 := by omega
        have c0 : wr.cell? ⟨w.heap.size, 15, none⟩ = some (.int .i64 (xs.getD 15 0 + ky xs 15)) := by rw [hS.cell 1 rfl 15]; exact ivs_get (cyA_at xs 15 hlt)
        have c1 : wr.cell? ⟨w.heap.size, 0, none⟩ = some (.int .i64 (dy xs 0)) := by rw [hS.cell 1 rfl 0]; exact ivs_get (cyA_last xs)
        have f0 := hS.free 1 rfl 15
        have f1 := hS.free 1 rfl 0
        have HT := hide (cyA_end xs HL.out)
        have hd : dy xs 15 = (xs.getD 15 0 + ky xs 15) % 65536 := rfl
        have hk : ky xs 16 = (xs.getD 15 0 + ky xs 15) / 65536 := rfl
        have HD := hide hd
        have HK := hide hk
        have h16 := H16.out
        rw [hk] at h16
        obtain ⟨y, hy0⟩ : ∃ y, y = xs.getD 15 0 + ky xs 15 := ⟨_, rfl⟩
        rw [← hy0] at c0 h16
        have by0 : -2305843009213693952 ≤ y := by omega
        have by1 : y ≤ 2305843009213693952 := by omega
        have bq0 : -72057594037927936 ≤ (y + 65536) / 65536 - 1 := by omega
        have bq1 : (y + 65536) / 65536 - 1 ≤ 72057594037927936 := by omega
        have HY := hide hy0
        have hz := dy_bd xs 0
        obtain ⟨z, hz0⟩ : ∃ z, z = dy xs 0 := ⟨_, rfl⟩
        rw [← hz0] at c1 hz
        have bz0 : 0 ≤ z := by omega
        have bz1 : z < 65536 := by omega
        have HZ := hide hz0
        clear hd hk hy0 hz0 hy hy1 hS h16 hz
        go_wp2_with fail
        go_roundw
        case rel =>
          have h3 := ((HS.out.setCell 1 rfl 15 (.int .i64 (y + 65536))).setCell 1 rfl 0 (.int .i64 (z + 38 * ((y + 65536) / 65536 - 1)))).setCell 1 rfl 15 (.int .i64 (y + 65536 - (y + 65536) / 65536 * 65536))
          have e1 : z + 38 * ((y + 65536) / 65536 - 1) = dy xs 0 + 38 * ky xs 16 := by rw [HK.out, HZ.out, ← HY.out]; omega
          have e2 : y + 65536 - (y + 65536) / 65536 * 65536 = dy xs 15 := by rw [HD.out, ← HY.out]; omega
          rw [e1, e2] at h3 ⊢
          simp only [List.set_cons_succ, List.set_cons_zero, ivs_set] at h3
          rw [List.set_comm _ _ (by decide : 15 ≠ 0), List.set_set, List.set_comm _ _ (by decide : 0 ≠ 15)] at h3
          rw [List.set_comm _ _ (by decide : 15 ≠ 0), HT.out] at h3
          exact ⟨16, by omega, rfl, h3⟩
        case measure => (simp [intOf]) <;> omega
    · obtain rfl : i = 16 := by omega
      obtain ⟨ys, hys⟩ : ∃ ys, ys = (ivs (carL xs)).toArray := ⟨_, rfl⟩
      have hsz : ys.size = 16 := by rw [hys, List.size_toArray, ivs_len, carL_len]
      have hone : ys.all (·.oneCell') = true := by rw [hys]; exact ivs_all _
      have HY := hide hys
      have h0 : St w NoB wr [.cells (w.heap.size + 1) (ivs (List.replicate 16 0)).toArray 41, .cells w.heap.size ys 41] := by rw [hys]; exact hS
      have HS1 := hide h0
      have HS2 := hide (h0.setRow 0 rfl ys)
      clear hS h0 hys HS
      go_upto_region 11 with fail
      refine wp_region_list ?_
      refine wpList_load_row rfl 41 (.tmp 1) rfl w.heap.size rfl 41 ys _ _ (HS1.out.heap 1 rfl) Try.underlying41 rfl (by rw [hsz]; kernel_rfl) ?_
      refine wpList_store_row rfl 41 (.tmp 2) (.tmp 42) rfl (w.heap.size + 1) ys rfl rfl 41 _ (HS1.out.heap 0 rfl) (by rw [hsz]; kernel_rfl) (by rw [hsz]; rfl) hone ?_
      refine wpList_nil ?_
      go_wp2_with fail
      refine bodyPost_ret (results_cell_row rfl _ _ (w.heap.size + 1) _ _ _ _ rfl (HS2.out.heap 0 rfl) Try.underlying41 rfl (by rw [hsz]; kernel_rfl)) rfl ?_
      exact ⟨by rw [HY.out], HS2.out.below⟩
end Go.Proofs.Ytdihedhhkcakoaa
