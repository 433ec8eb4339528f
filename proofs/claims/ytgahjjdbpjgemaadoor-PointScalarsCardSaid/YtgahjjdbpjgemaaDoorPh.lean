/-
  Joined of texts of mine, in build order: Id, If, Ig, Lift, Opg, Oq, Lm. Each says what it proves at its own head.
-/
import Derived.ProofKit
import Derived.OpenShut
import Derived.SizedLaws
import Derived.Carry
import Derived.Deep.Fields
import Derived.Deep.Slices
import Derived.ShutString
import Derived.Test.YtgahjjdbpjgemaaDoorRows
import Derived.LaidMore
import Derived.Stop.Joined
import Derived.Test.YtgahjjdbpjgemaaDoorPg
set_option linter.unusedSimpArgs false
set_option linter.unusedVariables false

/-
  Layer 4: the walk of PointReads.
-/
namespace Go.Proofs.YtgahjjdbpjgemaaDoor
open Go.RowKit
set_option linter.unusedSimpArgs false
theorem from_none {A : Option Addr} {n c : Nat} {l : List UInt8} (w : World) (h : fromL l = none) (hl : l.length = n) (hr : Rd w (.slice A n c) 1 n (bvs l)) : Calls Tryd.prog 24 #[.slice A n c] w fun e w' => ∃ v, PtV v .zero ∧ e = .returned (.tuple #[.agg v, .bool false]) ∧ Below w.heap.size w w' := by
  have := from_any w hl hr
  rw [h] at this
  exact this
theorem from_some {A : Option Addr} {n c : Nat} {l : List UInt8} {P : Ed} (w : World) (h : fromL l = some P) (hl : l.length = n) (hr : Rd w (.slice A n c) 1 n (bvs l)) : Calls Tryd.prog 24 #[.slice A n c] w fun e w' => ∃ v, PtV v P ∧ e = .returned (.tuple #[.agg v, .bool true]) ∧ Below w.heap.size w w' := by
  have := from_any w hl hr
  rw [h] at this
  exact this
theorem unpack_none {A : Option Addr} {n c : Nat} {l : List UInt8} (w : World) (h : fromL l = none) (hl : l.length = n) (hr : Rd w (.slice A n c) 1 n (bvs l)) : Calls Tryd.prog 25 #[.slice A n c] w fun e w' => ∃ v, QtN v .zero ∧ e = .returned (.tuple #[.agg v, .bool false]) ∧ Below w.heap.size w w' := by
  have := unpack_any w hl hr
  rw [h] at this
  exact this
theorem unpack_some {A : Option Addr} {n c : Nat} {l : List UInt8} {P : Ed} (w : World) (h : fromL l = some P) (hl : l.length = n) (hr : Rd w (.slice A n c) 1 n (bvs l)) : Calls Tryd.prog 25 #[.slice A n c] w fun e w' => ∃ v, QtN v P ∧ e = .returned (.tuple #[.agg v, .bool true]) ∧ Below w.heap.size w w' := by
  have := unpack_any w hl hr
  rw [h] at this
  exact this
/-- A byte with its top bit. -/
def ob (c : Nat) : Nat := if c < 128 then c + 128 else c
theorem ob_lt {c : Nat} (h : c < 256) : ob c < 256 := by unfold ob; split <;> omega
theorem u8_ob (n : Nat) (h : n < 256) : bits .or .u8 (n : Int) 128 = ((ob n : Nat) : Int) := by
  have : ∀ m : Fin 256, bits .or .u8 (m.val : Int) 128 = ((ob m.val : Nat) : Int) := by decide +kernel
  exact this ⟨n, h⟩
theorem en15_rd00 (args : Array Value) (w : World) : (callFunc 15 args).run Tryd.prog w = .ok (.enter 15 args) w := by kernel_rfl
theorem en15_rd01 (args : Array Value) (w : World) : (callFunc 15 args).run Tryd.prog w = .ok (.enter 15 args) w := by kernel_rfl
theorem en15_rd10 (args : Array Value) (w : World) : (callFunc 15 args).run Tryd.prog w = .ok (.enter 15 args) w := by kernel_rfl
theorem en15_rd11 (args : Array Value) (w : World) : (callFunc 15 args).run Tryd.prog w = .ok (.enter 15 args) w := by kernel_rfl
theorem en16_rd00 (args : Array Value) (w : World) : (callFunc 16 args).run Tryd.prog w = .ok (.enter 16 args) w := by kernel_rfl
theorem en16_rd01 (args : Array Value) (w : World) : (callFunc 16 args).run Tryd.prog w = .ok (.enter 16 args) w := by kernel_rfl
theorem en16_rd10 (args : Array Value) (w : World) : (callFunc 16 args).run Tryd.prog w = .ok (.enter 16 args) w := by kernel_rfl
theorem en16_rd11 (args : Array Value) (w : World) : (callFunc 16 args).run Tryd.prog w = .ok (.enter 16 args) w := by kernel_rfl
theorem en9_rd00 (args : Array Value) (w : World) : (callFunc 9 args).run Tryd.prog w = .ok (.enter 9 args) w := by kernel_rfl
theorem en9_rd01 (args : Array Value) (w : World) : (callFunc 9 args).run Tryd.prog w = .ok (.enter 9 args) w := by kernel_rfl
theorem en9_rd10 (args : Array Value) (w : World) : (callFunc 9 args).run Tryd.prog w = .ok (.enter 9 args) w := by kernel_rfl
theorem en9_rd11 (args : Array Value) (w : World) : (callFunc 9 args).run Tryd.prog w = .ok (.enter 9 args) w := by kernel_rfl
set_option maxRecDepth 100000 in
set_option maxHeartbeats 6400000 in
theorem pointReads_walk (A : Option Addr) (k c : Nat) (l : List UInt8) (od : Bool) (w : World) (hl : l.length = k) (hr : Rd w (.slice A k c) 1 k (bvs l)) :
    Calls Tryd.prog 5 #[.slice A k c, .bool od] w fun e w' => e = .returned (.bool true) ∧ Below w.heap.size w w' := by
  have HR := hide hr
  have HL := hide hl
  by_cases hk : k ≤ 100
  · have dk : decide ((100 : Int) < (k : Int)) = false := by simp; omega
    have dk2 : decide (100 < k) = false := by simp; omega
    by_cases h32 : k = 32 ∧ od = true
    · obtain ⟨rfl, rfl⟩ := h32
      clear hk dk dk2
      have hS1 : St w NoB (w.alloc (.cells #[] 5)) [.row (.slice (some ⟨w.heap.size, 0, none⟩) 0 0) 5 1 0 []] := (St.init w NoB).row ((Below.refl w.heap.size w).alloc (Nat.le_refl _) _) ⟨rfl, .inr ⟨w.heap.size, 0, #[], rfl, Nat.le_refl _, by show (w.heap.push _)[w.heap.size]? = _; simp, Nat.le_refl _, by decide, rfl, rfl⟩⟩
      have HS1 := hide hS1
      have HR1 := hide (hr.below ((Below.refl w.heap.size w).alloc (Nat.le_refl _) (.cells #[] 5)))
      obtain ⟨cb, hxb⟩ : ∃ cb, l[31]? = some cb := ⟨l[31], List.getElem?_eq_getElem _⟩
      have gB := bvs_get hxb
      obtain ⟨ch, hch⟩ : ∃ c : Nat, c = cb.toNat := ⟨_, rfl⟩
      have hc8 : ch < 256 := by rw [hch]; exact UInt8.toNat_lt _
      rw [← hch] at gB
      obtain ⟨co, hco⟩ : ∃ m, m = ob ch := ⟨_, rfl⟩
      have hor := u8_ob ch hc8
      have hm := ob_lt hc8
      rw [← hco] at hor hm
      obtain ⟨l2, hl2⟩ : ∃ l2, l2 = l.set 31 (UInt8.ofNat co) := ⟨_, rfl⟩
      have HL2 := hide (show l2.length = 32 by rw [hl2, List.length_set, hl])
      have GB := hide gB
      have HM := hide hm
      have HX := hide hl2
      clear hS1 hr hl hxb gB hch hco hm hl2
      go_enter Tryd.func5, Tryd.ntmps5
      go_upto_region 5 with (at_builtin; refine wl_append rfl rfl tyB HS1.out 0 rfl rfl rfl HR1.out (one_bvs l) (by omega) (by decide) ?_; intro A' c' w' hS2; rw [Nat.zero_add, List.nil_append] at hS2; have HS := hide hS2; clear hS2)
      obtain ⟨g, c1, hvv, _, _, hcs, hfr, _⟩ := HS.out.rowOpen 0 rfl (by omega)
      injection hvv with hvv1 _ hvv3
      subst hvv1 hvv3
      have k31 := hcs 31 _ GB.out
      have f31 := hfr 31
      clear hcs hfr
      go_upto_region 6 with fail
      have h9 := HS.out.rowSet 0 rfl 31 (.int .u8 (co : Int)) (by omega)
      simp only [List.set_cons_zero] at h9
      rw [bvs_set _ _ _ HM.out, ← HX.out] at h9
      have HS := hide h9
      clear h9 k31 f31
      cases hf : fromL l2 with
      | none =>
        have HFL := hide hf
        clear hf
        have M0 := True.intro
        go_upto_region 8 with (first | (clear M5; refine wl_storeR rfl rfl rfl rfl HS.out rowQ (.head) (by first | exact arr_zQ | exact QtN.arr ‹_› | exact qN ‹_› ‹_› ‹_› ‹_›) (by first | exact arr_zQ | exact QtN.arr ‹_› | exact qN ‹_› ‹_› ‹_› ‹_›) ?_; intro wz hS9; have HS := hide hS9; clear hS9; (try simp only [Act.put, nq1, nq2, nq3, nq4, nq5, nq6]); have M6 := True.intro) | (clear M4; refine wl_allocR rfl rfl HS.out newQ ?_; intro g7 wz hS9; have HS := hide hS9; clear hS9; (try simp only [Act.put, nq1, nq2, nq3, nq4, nq5, nq6]); have M5 := True.intro) | (clear M3; go_at_call 25; (with_reducible refine (unpack_none _ (HFL.out) HL2.out (HS.out.rd 1 rfl)).mono ?_); rintro e wy ⟨z2, hz2, rfl, hb⟩; have HS := hide (HS.out.call hb); have M4 := True.intro) | (clear M2; refine wl_storeR rfl rfl rfl rfl HS.out rowP (.head) (by first | exact arr_zP | exact PtN.arr ‹_› | exact PtV.arr ‹_› | exact qE ‹_› ‹_› ‹_› ‹_›) (by first | exact arr_zP | exact PtN.arr ‹_› | exact PtV.arr ‹_› | exact qE ‹_› ‹_› ‹_› ‹_›) ?_; intro wz hS9; have HS := hide hS9; clear hS9; (try simp only [Act.put, nq1, nq2, nq3, nq4, nq5, nq6]); have M3 := True.intro) | (clear M1; refine wl_allocR rfl rfl HS.out newP ?_; intro g5 wz hS9; have HS := hide hS9; clear hS9; (try simp only [Act.put, nq1, nq2, nq3, nq4, nq5, nq6]); have M2 := True.intro) | (clear M0; go_at_call 24; (with_reducible refine (from_none _ (HFL.out) HL2.out (HS.out.rd 0 rfl)).mono ?_); rintro e wy ⟨z1, hz1, rfl, hb⟩; have HS := hide (HS.out.call hb); have M1 := True.intro))
        have HS := hide HS.out.drew
        refine wp_region_T [(0, 1), (1, 1), (2, 1), (3, 1), (4, 0), (7, 0), (5, 2), (6, 0), (8, 2), (9, 0), (10, 1), (11, 1), (12, 1), (13, 1), (14, 1), (15, 1), (16, 1), (19, 1), (20, 1), (17, 2), (18, 1), (21, 1), (22, 1), (23, 1), (24, 1), (25, 2), (26, 1), (27, 1)] (by kernel_rfl) (by kernel_rfl) (fun _ _ _ _ h => h) ?_
        (refine wpT_pure (v := ?_) rfl rfl ?_ ?_; rotate_left; (intro wx; go_simp; try go_bits) <;> (with_reducible rfl)); (try simp only [Act.put, nq1, nq2, nq3, nq4, nq5, nq6])
        (refine wpT_pure (v := ?_) rfl rfl ?_ ?_; rotate_left; (intro wx; go_simp; try go_bits) <;> (with_reducible rfl)); (try simp only [Act.put, nq1, nq2, nq3, nq4, nq5, nq6])
        (refine wpT_pure (v := ?_) rfl rfl ?_ ?_; rotate_left; (intro wx; go_simp; try go_bits) <;> (with_reducible rfl)); (try simp only [Act.put, nq1, nq2, nq3, nq4, nq5, nq6])
        (refine wpT_pure (v := ?_) rfl rfl ?_ ?_; rotate_left; (intro wx; go_simp; try go_bits) <;> (with_reducible rfl)); (try simp only [Act.put, nq1, nq2, nq3, nq4, nq5, nq6])
        refine wpT_loadP rfl rfl rfl rfl HS.out (.tail _ (.head _)) rowP (.all (by first | exact arr_zP | exact PtN.arr ‹_› | exact PtV.arr ‹_› | exact qE ‹_› ‹_› ‹_› ‹_›)) ?_; (try simp only [Act.put, nq1, nq2, nq3, nq4, nq5, nq6])
        refine wpT_loadP rfl rfl rfl rfl HS.out (.head _) rowQ (.all (by first | exact arr_zQ | exact QtN.arr ‹_› | exact qN ‹_› ‹_› ‹_› ‹_›)) ?_; (try simp only [Act.put, nq1, nq2, nq3, nq4, nq5, nq6])
        refine wpT_callF rfl rfl rfl en15_rd10 rfl (bytesP32 _ (by first | assumption | exact PtN.v ‹_›)) ?_; rintro e wy ⟨B3, d3, rfl, hb, ho⟩; refine ⟨_, rfl, hb, ?_⟩; have HS := hide (HS.out.row hb ho); have cv3 := fun x (hx : From wy x) => run_str (P := Tryd.prog) Tryd.underlying22 Tryd.underlying5 Tryd.underlying9 ((HS.out.rd 0 rfl).below hx); clear ho; (try simp only [Act.put, nq1, nq2, nq3, nq4, nq5, nq6])
        (refine wpT_read (v := ?_) rfl rfl ?_ ?_; rotate_left; (intro wx hx; go_simp; try go_bits) <;> (with_reducible rfl)); (try simp only [Act.put, nq1, nq2, nq3, nq4, nq5, nq6])
        refine wpT_callF rfl rfl rfl en16_rd10 rfl (packQ32 _ ‹_›) ?_; rintro e wy ⟨B4, d4, rfl, hb, ho⟩; refine ⟨_, rfl, hb, ?_⟩; have HS := hide (HS.out.row hb ho); have cv4 := fun x (hx : From wy x) => run_str (P := Tryd.prog) Tryd.underlying22 Tryd.underlying5 Tryd.underlying9 ((HS.out.rd 0 rfl).below hx); clear ho; (try simp only [Act.put, nq1, nq2, nq3, nq4, nq5, nq6])
        (refine wpT_read (v := ?_) rfl rfl ?_ ?_; rotate_left; (intro wx hx; go_simp; try go_bits) <;> (with_reducible rfl)); (try simp only [Act.put, nq1, nq2, nq3, nq4, nq5, nq6])
        (refine wpT_pure (v := ?_) rfl rfl ?_ ?_; rotate_left; (intro wx; go_simp; try go_bits) <;> (with_reducible rfl)); (try simp only [Act.put, nq1, nq2, nq3, nq4, nq5, nq6])
        (refine wpT_pure (v := ?_) rfl rfl ?_ ?_; rotate_left; (intro wx; go_simp; try go_bits) <;> (with_reducible rfl)); (try simp only [Act.put, nq1, nq2, nq3, nq4, nq5, nq6])
        (refine wpT_pure (v := ?_) rfl rfl ?_ ?_; rotate_left; (intro wx; go_simp; try go_bits) <;> (with_reducible rfl)); (try simp only [Act.put, nq1, nq2, nq3, nq4, nq5, nq6])
        (refine wpT_pure (v := ?_) rfl rfl ?_ ?_; rotate_left; (intro wx; go_simp; try go_bits) <;> (with_reducible rfl)); (try simp only [Act.put, nq1, nq2, nq3, nq4, nq5, nq6])
        (refine wpT_pure (v := ?_) rfl rfl ?_ ?_; rotate_left; (intro wx; go_simp; try go_bits) <;> (with_reducible rfl)); (try simp only [Act.put, nq1, nq2, nq3, nq4, nq5, nq6])
        (refine wpT_pure (v := ?_) rfl rfl ?_ ?_; rotate_left; (intro wx; go_simp; try go_bits) <;> (with_reducible rfl)); (try simp only [Act.put, nq1, nq2, nq3, nq4, nq5, nq6])
        refine wpT_skip rfl rfl ?_; (try simp only [Act.put, nq1, nq2, nq3, nq4, nq5, nq6])
        refine wpT_skip rfl rfl ?_; (try simp only [Act.put, nq1, nq2, nq3, nq4, nq5, nq6])
        refine wpT_skip rfl rfl ?_; (try simp only [Act.put, nq1, nq2, nq3, nq4, nq5, nq6])
        refine wpT_skip rfl rfl ?_; (try simp only [Act.put, nq1, nq2, nq3, nq4, nq5, nq6])
        refine wpT_skip rfl rfl ?_; (try simp only [Act.put, nq1, nq2, nq3, nq4, nq5, nq6])
        refine wpT_skip rfl rfl ?_; (try simp only [Act.put, nq1, nq2, nq3, nq4, nq5, nq6])
        (refine wpT_pure (v := ?_) rfl rfl ?_ ?_; rotate_left; (intro wx; go_simp; try go_bits) <;> (with_reducible rfl)); (try simp only [Act.put, nq1, nq2, nq3, nq4, nq5, nq6])
        (refine wpT_pure (v := ?_) rfl rfl ?_ ?_; rotate_left; (intro wx; go_simp; try go_bits) <;> (with_reducible rfl)); (try simp only [Act.put, nq1, nq2, nq3, nq4, nq5, nq6])
        (refine wpT_pure (v := ?_) rfl rfl ?_ ?_; rotate_left; (intro wx; go_simp; try go_bits) <;> (with_reducible rfl)); (try simp only [Act.put, nq1, nq2, nq3, nq4, nq5, nq6])
        refine wpT_callF rfl rfl rfl en9_rd10 rfl (awake4_any _) ?_; rintro e wy ⟨rfl, hb⟩; refine ⟨_, rfl, hb, ?_⟩; have HS := hide (HS.out.call hb); (try simp only [Act.put, nq1, nq2, nq3, nq4, nq5, nq6])
        (refine wpT_pure (v := ?_) rfl rfl ?_ ?_; rotate_left; (intro wx; go_simp; try go_bits) <;> (with_reducible rfl)); (try simp only [Act.put, nq1, nq2, nq3, nq4, nq5, nq6])
        (refine wpT_pure (v := ?_) rfl rfl ?_ ?_; rotate_left; (intro wx; go_simp; try go_bits) <;> (with_reducible rfl)); (try simp only [Act.put, nq1, nq2, nq3, nq4, nq5, nq6])
        refine wpT_nil ?_
        go_wp2_with fail
        go_ret
        exact ⟨rfl, HS.out.below⟩
      | some P =>
        have HFL := hide hf
        clear hf
        have M0 := True.intro
        go_upto_region 8 with (first | (clear M5; refine wl_storeR rfl rfl rfl rfl HS.out rowQ (.head) (by first | exact arr_zQ | exact QtN.arr ‹_› | exact qN ‹_› ‹_› ‹_› ‹_›) (by first | exact arr_zQ | exact QtN.arr ‹_› | exact qN ‹_› ‹_› ‹_› ‹_›) ?_; intro wz hS9; have HS := hide hS9; clear hS9; (try simp only [Act.put, nq1, nq2, nq3, nq4, nq5, nq6]); have M6 := True.intro) | (clear M4; refine wl_allocR rfl rfl HS.out newQ ?_; intro g7 wz hS9; have HS := hide hS9; clear hS9; (try simp only [Act.put, nq1, nq2, nq3, nq4, nq5, nq6]); have M5 := True.intro) | (clear M3; go_at_call 25; (with_reducible refine (unpack_some _ (HFL.out) HL2.out (HS.out.rd 1 rfl)).mono ?_); rintro e wy ⟨z2, hz2, rfl, hb⟩; have HS := hide (HS.out.call hb); have M4 := True.intro) | (clear M2; refine wl_storeR rfl rfl rfl rfl HS.out rowP (.head) (by first | exact arr_zP | exact PtN.arr ‹_› | exact PtV.arr ‹_› | exact qE ‹_› ‹_› ‹_› ‹_›) (by first | exact arr_zP | exact PtN.arr ‹_› | exact PtV.arr ‹_› | exact qE ‹_› ‹_› ‹_› ‹_›) ?_; intro wz hS9; have HS := hide hS9; clear hS9; (try simp only [Act.put, nq1, nq2, nq3, nq4, nq5, nq6]); have M3 := True.intro) | (clear M1; refine wl_allocR rfl rfl HS.out newP ?_; intro g5 wz hS9; have HS := hide hS9; clear hS9; (try simp only [Act.put, nq1, nq2, nq3, nq4, nq5, nq6]); have M2 := True.intro) | (clear M0; go_at_call 24; (with_reducible refine (from_some _ (HFL.out) HL2.out (HS.out.rd 0 rfl)).mono ?_); rintro e wy ⟨z1, hz1, rfl, hb⟩; have HS := hide (HS.out.call hb); have M1 := True.intro))
        have HPK := hide (from_ok HFL.out)
        have HS := hide HS.out.drew
        refine wp_region_T [(0, 1), (1, 1), (2, 1), (3, 1), (4, 0), (7, 0), (5, 2), (6, 0), (8, 2), (9, 0), (10, 1), (11, 1), (12, 1), (13, 1), (14, 1), (15, 1), (16, 0), (19, 1), (20, 0), (17, 2), (18, 0), (21, 1), (22, 1), (23, 1), (24, 1), (25, 2), (26, 1), (27, 1)] (by kernel_rfl) (by kernel_rfl) (fun _ _ _ _ h => h) ?_
        (refine wpT_pure (v := ?_) rfl rfl ?_ ?_; rotate_left; (intro wx; go_simp; try go_bits) <;> (with_reducible rfl)); (try simp only [Act.put, nq1, nq2, nq3, nq4, nq5, nq6])
        (refine wpT_pure (v := ?_) rfl rfl ?_ ?_; rotate_left; (intro wx; go_simp; try go_bits) <;> (with_reducible rfl)); (try simp only [Act.put, nq1, nq2, nq3, nq4, nq5, nq6])
        (refine wpT_pure (v := ?_) rfl rfl ?_ ?_; rotate_left; (intro wx; go_simp; try go_bits) <;> (with_reducible rfl)); (try simp only [Act.put, nq1, nq2, nq3, nq4, nq5, nq6])
        (refine wpT_pure (v := ?_) rfl rfl ?_ ?_; rotate_left; (intro wx; go_simp; try go_bits) <;> (with_reducible rfl)); (try simp only [Act.put, nq1, nq2, nq3, nq4, nq5, nq6])
        refine wpT_loadP rfl rfl rfl rfl HS.out (.tail _ (.head _)) rowP (.all (by first | exact arr_zP | exact PtN.arr ‹_› | exact PtV.arr ‹_› | exact qE ‹_› ‹_› ‹_› ‹_›)) ?_; (try simp only [Act.put, nq1, nq2, nq3, nq4, nq5, nq6])
        refine wpT_loadP rfl rfl rfl rfl HS.out (.head _) rowQ (.all (by first | exact arr_zQ | exact QtN.arr ‹_› | exact qN ‹_› ‹_› ‹_› ‹_›)) ?_; (try simp only [Act.put, nq1, nq2, nq3, nq4, nq5, nq6])
        refine wpT_callF rfl rfl rfl en15_rd11 rfl (bytesP32 _ (by first | assumption | exact PtN.v ‹_›)) ?_; rintro e wy ⟨B3, d3, rfl, hb, ho⟩; refine ⟨_, rfl, hb, ?_⟩; have HS := hide (HS.out.row hb ho); have cv3 := fun x (hx : From wy x) => run_str (P := Tryd.prog) Tryd.underlying22 Tryd.underlying5 Tryd.underlying9 ((HS.out.rd 0 rfl).below hx); clear ho; (try simp only [Act.put, nq1, nq2, nq3, nq4, nq5, nq6])
        (refine wpT_read (v := ?_) rfl rfl ?_ ?_; rotate_left; (intro wx hx; go_simp; try go_bits) <;> (with_reducible rfl)); (try simp only [Act.put, nq1, nq2, nq3, nq4, nq5, nq6])
        refine wpT_callF rfl rfl rfl en16_rd11 rfl (packQ32 _ ‹_›) ?_; rintro e wy ⟨B4, d4, rfl, hb, ho⟩; refine ⟨_, rfl, hb, ?_⟩; have HS := hide (HS.out.row hb ho); have cv4 := fun x (hx : From wy x) => run_str (P := Tryd.prog) Tryd.underlying22 Tryd.underlying5 Tryd.underlying9 ((HS.out.rd 0 rfl).below hx); clear ho; (try simp only [Act.put, nq1, nq2, nq3, nq4, nq5, nq6])
        (refine wpT_read (v := ?_) rfl rfl ?_ ?_; rotate_left; (intro wx hx; go_simp; try go_bits) <;> (with_reducible rfl)); (try simp only [Act.put, nq1, nq2, nq3, nq4, nq5, nq6])
        (refine wpT_pure (v := ?_) rfl rfl ?_ ?_; rotate_left; (intro wx; go_simp; try go_bits) <;> (with_reducible rfl)); (try simp only [Act.put, nq1, nq2, nq3, nq4, nq5, nq6])
        (refine wpT_pure (v := ?_) rfl rfl ?_ ?_; rotate_left; (intro wx; go_simp; try go_bits) <;> (with_reducible rfl)); (try simp only [Act.put, nq1, nq2, nq3, nq4, nq5, nq6])
        (refine wpT_pure (v := ?_) rfl rfl ?_ ?_; rotate_left; (intro wx; go_simp; try go_bits) <;> (with_reducible rfl)); (try simp only [Act.put, nq1, nq2, nq3, nq4, nq5, nq6])
        (refine wpT_pure (v := ?_) rfl rfl ?_ ?_; rotate_left; (intro wx; go_simp; try go_bits) <;> (with_reducible rfl)); (try simp only [Act.put, nq1, nq2, nq3, nq4, nq5, nq6])
        (refine wpT_pure (v := ?_) rfl rfl ?_ ?_; rotate_left; (intro wx; go_simp; try go_bits) <;> (with_reducible rfl)); (try simp only [Act.put, nq1, nq2, nq3, nq4, nq5, nq6])
        (refine wpT_pure (v := ?_) rfl rfl ?_ ?_; rotate_left; (intro wx; go_simp; try go_bits) <;> (with_reducible rfl)); (try simp only [Act.put, nq1, nq2, nq3, nq4, nq5, nq6])
        refine wpT_loadP rfl rfl rfl rfl HS.out (.tail _ (.tail _ (.tail _ (.head _)))) rowP (.all (by first | exact arr_zP | exact PtN.arr ‹_› | exact PtV.arr ‹_› | exact qE ‹_› ‹_› ‹_› ‹_›)) ?_; (try simp only [Act.put, nq1, nq2, nq3, nq4, nq5, nq6])
        (refine wpT_pure (v := ?_) rfl rfl ?_ ?_; rotate_left; (intro wx; go_simp; try go_bits) <;> (with_reducible rfl)); (try simp only [Act.put, nq1, nq2, nq3, nq4, nq5, nq6])
        have cvo := fun x (hx : From _ x) => run_str (P := Tryd.prog) Tryd.underlying22 Tryd.underlying5 Tryd.underlying9 ((HS.out.rd 4 rfl).below hx)
        (refine wpT_read (v := ?_) rfl rfl ?_ ?_; rotate_left; (intro wx hx; go_simp; try go_bits) <;> (with_reducible rfl)); (try simp only [Act.put, nq1, nq2, nq3, nq4, nq5, nq6])
        clear cvo
        refine wpT_callF rfl rfl rfl en15_rd11 rfl (bytesP32 _ (by first | assumption | exact PtN.v ‹_›)) ?_; rintro e wy ⟨B5, d5, rfl, hb, ho⟩; rw [HPK.out] at ho; refine ⟨_, rfl, hb, ?_⟩; have HS := hide (HS.out.row hb ho); have cv5 := fun x (hx : From wy x) => run_str (P := Tryd.prog) Tryd.underlying22 Tryd.underlying5 Tryd.underlying9 ((HS.out.rd 0 rfl).below hx); clear ho; (try simp only [Act.put, nq1, nq2, nq3, nq4, nq5, nq6])
        (refine wpT_read (v := ?_) rfl rfl ?_ ?_; rotate_left; (intro wx hx; go_simp; try go_bits) <;> (with_reducible rfl)); (try simp only [Act.put, nq1, nq2, nq3, nq4, nq5, nq6])
        (refine wpT_pure (v := ?_) rfl rfl ?_ ?_; rotate_left; (intro wx; go_simp; try go_bits) <;> (with_reducible rfl)); (try simp only [Act.put, nq1, nq2, nq3, nq4, nq5, nq6])
        (refine wpT_pure (v := ?_) rfl rfl ?_ ?_; rotate_left; (intro wx; go_simp; try go_bits) <;> (with_reducible rfl)); (try simp only [Act.put, nq1, nq2, nq3, nq4, nq5, nq6])
        (refine wpT_pure (v := ?_) rfl rfl ?_ ?_; rotate_left; (intro wx; go_simp; try go_bits) <;> (with_reducible rfl)); (try simp only [Act.put, nq1, nq2, nq3, nq4, nq5, nq6])
        (refine wpT_pure (v := ?_) rfl rfl ?_ ?_; rotate_left; (intro wx; go_simp; try go_bits) <;> (with_reducible rfl)); (try simp only [Act.put, nq1, nq2, nq3, nq4, nq5, nq6])
        refine wpT_callF rfl rfl rfl en9_rd11 rfl (awake4_any _) ?_; rintro e wy ⟨rfl, hb⟩; refine ⟨_, rfl, hb, ?_⟩; have HS := hide (HS.out.call hb); (try simp only [Act.put, nq1, nq2, nq3, nq4, nq5, nq6])
        (refine wpT_pure (v := ?_) rfl rfl ?_ ?_; rotate_left; (intro wx; go_simp; try go_bits) <;> (with_reducible rfl)); (try simp only [Act.put, nq1, nq2, nq3, nq4, nq5, nq6])
        (refine wpT_pure (v := ?_) rfl rfl ?_ ?_; rotate_left; (intro wx; go_simp; try go_bits) <;> (with_reducible rfl)); (try simp only [Act.put, nq1, nq2, nq3, nq4, nq5, nq6])
        refine wpT_nil ?_
        go_wp2_with fail
        go_ret
        exact ⟨rfl, HS.out.below⟩
    · have HS := hide (St.init w NoB)
      have d1 : ((k : Int) == 32 && od) = false := by
        cases od with
        | false => rw [Bool.and_false]
        | true =>
          have : k ≠ 32 := fun e => h32 ⟨e, rfl⟩
          rw [Bool.and_true]
          simp
          omega
      cases hf : fromL l with
      | none =>
        have HFL := hide hf
        clear hf hr hl hk
        by_cases hk32 : k = 32
        · subst hk32
          obtain rfl : od = false := by cases od with
            | false => rfl
            | true => exact absurd ⟨rfl, rfl⟩ h32
          clear h32 d1
          go_enter Tryd.func5, Tryd.ntmps5
          have M0 := True.intro
          go_upto_region 8 with (first | (clear M5; refine wl_storeR rfl rfl rfl rfl HS.out rowQ (.head) (by first | exact arr_zQ | exact QtN.arr ‹_› | exact qN ‹_› ‹_› ‹_› ‹_›) (by first | exact arr_zQ | exact QtN.arr ‹_› | exact qN ‹_› ‹_› ‹_› ‹_›) ?_; intro wz hS9; have HS := hide hS9; clear hS9; (try simp only [Act.put, nq1, nq2, nq3, nq4, nq5, nq6]); have M6 := True.intro) | (clear M4; refine wl_allocR rfl rfl HS.out newQ ?_; intro g7 wz hS9; have HS := hide hS9; clear hS9; (try simp only [Act.put, nq1, nq2, nq3, nq4, nq5, nq6]); have M5 := True.intro) | (clear M3; go_at_call 25; (with_reducible refine (unpack_none _ (HFL.out) HL.out (HR.out.below HS.out.below)).mono ?_); rintro e wy ⟨z2, hz2, rfl, hb⟩; have HS := hide (HS.out.call hb); have M4 := True.intro) | (clear M2; refine wl_storeR rfl rfl rfl rfl HS.out rowP (.head) (by first | exact arr_zP | exact PtN.arr ‹_› | exact PtV.arr ‹_› | exact qE ‹_› ‹_› ‹_› ‹_›) (by first | exact arr_zP | exact PtN.arr ‹_› | exact PtV.arr ‹_› | exact qE ‹_› ‹_› ‹_› ‹_›) ?_; intro wz hS9; have HS := hide hS9; clear hS9; (try simp only [Act.put, nq1, nq2, nq3, nq4, nq5, nq6]); have M3 := True.intro) | (clear M1; refine wl_allocR rfl rfl HS.out newP ?_; intro g5 wz hS9; have HS := hide hS9; clear hS9; (try simp only [Act.put, nq1, nq2, nq3, nq4, nq5, nq6]); have M2 := True.intro) | (clear M0; go_at_call 24; (with_reducible refine (from_none _ (HFL.out) HL.out (HR.out.below HS.out.below)).mono ?_); rintro e wy ⟨z1, hz1, rfl, hb⟩; have HS := hide (HS.out.call hb); have M1 := True.intro))
          have HS := hide HS.out.drew
          refine wp_region_T [(0, 1), (1, 1), (2, 1), (3, 1), (4, 0), (7, 0), (5, 2), (6, 0), (8, 2), (9, 0), (10, 1), (11, 1), (12, 1), (13, 1), (14, 1), (15, 1), (16, 1), (19, 1), (20, 1), (17, 2), (18, 1), (21, 1), (22, 1), (23, 1), (24, 1), (25, 2), (26, 1), (27, 1)] (by kernel_rfl) (by kernel_rfl) (fun _ _ _ _ h => h) ?_
          (refine wpT_pure (v := ?_) rfl rfl ?_ ?_; rotate_left; (intro wx; go_simp; try go_bits) <;> (with_reducible rfl)); (try simp only [Act.put, nq1, nq2, nq3, nq4, nq5, nq6])
          (refine wpT_pure (v := ?_) rfl rfl ?_ ?_; rotate_left; (intro wx; go_simp; try go_bits) <;> (with_reducible rfl)); (try simp only [Act.put, nq1, nq2, nq3, nq4, nq5, nq6])
          (refine wpT_pure (v := ?_) rfl rfl ?_ ?_; rotate_left; (intro wx; go_simp; try go_bits) <;> (with_reducible rfl)); (try simp only [Act.put, nq1, nq2, nq3, nq4, nq5, nq6])
          (refine wpT_pure (v := ?_) rfl rfl ?_ ?_; rotate_left; (intro wx; go_simp; try go_bits) <;> (with_reducible rfl)); (try simp only [Act.put, nq1, nq2, nq3, nq4, nq5, nq6])
          refine wpT_loadP rfl rfl rfl rfl HS.out (.tail _ (.head _)) rowP (.all (by first | exact arr_zP | exact PtN.arr ‹_› | exact PtV.arr ‹_› | exact qE ‹_› ‹_› ‹_› ‹_›)) ?_; (try simp only [Act.put, nq1, nq2, nq3, nq4, nq5, nq6])
          refine wpT_loadP rfl rfl rfl rfl HS.out (.head _) rowQ (.all (by first | exact arr_zQ | exact QtN.arr ‹_› | exact qN ‹_› ‹_› ‹_› ‹_›)) ?_; (try simp only [Act.put, nq1, nq2, nq3, nq4, nq5, nq6])
          refine wpT_callF rfl rfl rfl en15_rd00 rfl (bytesP32 _ (by first | assumption | exact PtN.v ‹_›)) ?_; rintro e wy ⟨B3, d3, rfl, hb, ho⟩; refine ⟨_, rfl, hb, ?_⟩; have HS := hide (HS.out.row hb ho); have cv3 := fun x (hx : From wy x) => run_str (P := Tryd.prog) Tryd.underlying22 Tryd.underlying5 Tryd.underlying9 ((HS.out.rd 0 rfl).below hx); clear ho; (try simp only [Act.put, nq1, nq2, nq3, nq4, nq5, nq6])
          (refine wpT_read (v := ?_) rfl rfl ?_ ?_; rotate_left; (intro wx hx; go_simp; try go_bits) <;> (with_reducible rfl)); (try simp only [Act.put, nq1, nq2, nq3, nq4, nq5, nq6])
          refine wpT_callF rfl rfl rfl en16_rd00 rfl (packQ32 _ ‹_›) ?_; rintro e wy ⟨B4, d4, rfl, hb, ho⟩; refine ⟨_, rfl, hb, ?_⟩; have HS := hide (HS.out.row hb ho); have cv4 := fun x (hx : From wy x) => run_str (P := Tryd.prog) Tryd.underlying22 Tryd.underlying5 Tryd.underlying9 ((HS.out.rd 0 rfl).below hx); clear ho; (try simp only [Act.put, nq1, nq2, nq3, nq4, nq5, nq6])
          (refine wpT_read (v := ?_) rfl rfl ?_ ?_; rotate_left; (intro wx hx; go_simp; try go_bits) <;> (with_reducible rfl)); (try simp only [Act.put, nq1, nq2, nq3, nq4, nq5, nq6])
          (refine wpT_pure (v := ?_) rfl rfl ?_ ?_; rotate_left; (intro wx; go_simp; try go_bits) <;> (with_reducible rfl)); (try simp only [Act.put, nq1, nq2, nq3, nq4, nq5, nq6])
          (refine wpT_pure (v := ?_) rfl rfl ?_ ?_; rotate_left; (intro wx; go_simp; try go_bits) <;> (with_reducible rfl)); (try simp only [Act.put, nq1, nq2, nq3, nq4, nq5, nq6])
          (refine wpT_pure (v := ?_) rfl rfl ?_ ?_; rotate_left; (intro wx; go_simp; try go_bits) <;> (with_reducible rfl)); (try simp only [Act.put, nq1, nq2, nq3, nq4, nq5, nq6])
          (refine wpT_pure (v := ?_) rfl rfl ?_ ?_; rotate_left; (intro wx; go_simp; try go_bits) <;> (with_reducible rfl)); (try simp only [Act.put, nq1, nq2, nq3, nq4, nq5, nq6])
          (refine wpT_pure (v := ?_) rfl rfl ?_ ?_; rotate_left; (intro wx; go_simp; try go_bits) <;> (with_reducible rfl)); (try simp only [Act.put, nq1, nq2, nq3, nq4, nq5, nq6])
          (refine wpT_pure (v := ?_) rfl rfl ?_ ?_; rotate_left; (intro wx; go_simp; try go_bits) <;> (with_reducible rfl)); (try simp only [Act.put, nq1, nq2, nq3, nq4, nq5, nq6])
          refine wpT_skip rfl rfl ?_; (try simp only [Act.put, nq1, nq2, nq3, nq4, nq5, nq6])
          refine wpT_skip rfl rfl ?_; (try simp only [Act.put, nq1, nq2, nq3, nq4, nq5, nq6])
          refine wpT_skip rfl rfl ?_; (try simp only [Act.put, nq1, nq2, nq3, nq4, nq5, nq6])
          refine wpT_skip rfl rfl ?_; (try simp only [Act.put, nq1, nq2, nq3, nq4, nq5, nq6])
          refine wpT_skip rfl rfl ?_; (try simp only [Act.put, nq1, nq2, nq3, nq4, nq5, nq6])
          refine wpT_skip rfl rfl ?_; (try simp only [Act.put, nq1, nq2, nq3, nq4, nq5, nq6])
          (refine wpT_pure (v := ?_) rfl rfl ?_ ?_; rotate_left; (intro wx; go_simp; try go_bits) <;> (with_reducible rfl)); (try simp only [Act.put, nq1, nq2, nq3, nq4, nq5, nq6])
          (refine wpT_pure (v := ?_) rfl rfl ?_ ?_; rotate_left; (intro wx; go_simp; try go_bits) <;> (with_reducible rfl)); (try simp only [Act.put, nq1, nq2, nq3, nq4, nq5, nq6])
          (refine wpT_pure (v := ?_) rfl rfl ?_ ?_; rotate_left; (intro wx; go_simp; try go_bits) <;> (with_reducible rfl)); (try simp only [Act.put, nq1, nq2, nq3, nq4, nq5, nq6])
          refine wpT_callF rfl rfl rfl en9_rd00 rfl (awake4_any _) ?_; rintro e wy ⟨rfl, hb⟩; refine ⟨_, rfl, hb, ?_⟩; have HS := hide (HS.out.call hb); (try simp only [Act.put, nq1, nq2, nq3, nq4, nq5, nq6])
          (refine wpT_pure (v := ?_) rfl rfl ?_ ?_; rotate_left; (intro wx; go_simp; try go_bits) <;> (with_reducible rfl)); (try simp only [Act.put, nq1, nq2, nq3, nq4, nq5, nq6])
          (refine wpT_pure (v := ?_) rfl rfl ?_ ?_; rotate_left; (intro wx; go_simp; try go_bits) <;> (with_reducible rfl)); (try simp only [Act.put, nq1, nq2, nq3, nq4, nq5, nq6])
          refine wpT_nil ?_
          go_wp2_with fail
          go_ret
          exact ⟨rfl, HS.out.below⟩
        · have dkk : decide ((k : Int) = 32) = false := by simp; omega
          have dkb : ((k : Int) == 32) = false := dkk
          clear h32 d1
          have HKK := hide hk32
          clear hk32
          go_enter Tryd.func5, Tryd.ntmps5
          have M0 := True.intro
          go_upto_region 8 with (first | (clear M5; refine wl_storeR rfl rfl rfl rfl HS.out rowQ (.head) (by first | exact arr_zQ | exact QtN.arr ‹_› | exact qN ‹_› ‹_› ‹_› ‹_›) (by first | exact arr_zQ | exact QtN.arr ‹_› | exact qN ‹_› ‹_› ‹_› ‹_›) ?_; intro wz hS9; have HS := hide hS9; clear hS9; (try simp only [Act.put, nq1, nq2, nq3, nq4, nq5, nq6]); have M6 := True.intro) | (clear M4; refine wl_allocR rfl rfl HS.out newQ ?_; intro g7 wz hS9; have HS := hide hS9; clear hS9; (try simp only [Act.put, nq1, nq2, nq3, nq4, nq5, nq6]); have M5 := True.intro) | (clear M3; go_at_call 25; (with_reducible refine (unpack_none _ (HFL.out) HL.out (HR.out.below HS.out.below)).mono ?_); rintro e wy ⟨z2, hz2, rfl, hb⟩; have HS := hide (HS.out.call hb); have M4 := True.intro) | (clear M2; refine wl_storeR rfl rfl rfl rfl HS.out rowP (.head) (by first | exact arr_zP | exact PtN.arr ‹_› | exact PtV.arr ‹_› | exact qE ‹_› ‹_› ‹_› ‹_›) (by first | exact arr_zP | exact PtN.arr ‹_› | exact PtV.arr ‹_› | exact qE ‹_› ‹_› ‹_› ‹_›) ?_; intro wz hS9; have HS := hide hS9; clear hS9; (try simp only [Act.put, nq1, nq2, nq3, nq4, nq5, nq6]); have M3 := True.intro) | (clear M1; refine wl_allocR rfl rfl HS.out newP ?_; intro g5 wz hS9; have HS := hide hS9; clear hS9; (try simp only [Act.put, nq1, nq2, nq3, nq4, nq5, nq6]); have M2 := True.intro) | (clear M0; go_at_call 24; (with_reducible refine (from_none _ (HFL.out) HL.out (HR.out.below HS.out.below)).mono ?_); rintro e wy ⟨z1, hz1, rfl, hb⟩; have HS := hide (HS.out.call hb); have M1 := True.intro))
          have HS := hide HS.out.drew
          refine wp_region_T [(0, 1), (1, 1), (2, 1), (3, 1), (4, 0), (7, 0), (5, 2), (6, 0), (8, 2), (9, 0), (10, 1), (11, 1), (12, 1), (13, 1), (14, 1), (15, 1), (16, 1), (19, 1), (20, 1), (17, 2), (18, 1), (21, 1), (22, 1), (23, 1), (24, 1), (25, 2), (26, 1), (27, 1)] (by kernel_rfl) (by kernel_rfl) (fun _ _ _ _ h => h) ?_
          (refine wpT_pure (v := ?_) rfl rfl ?_ ?_; rotate_left; (intro wx; go_simp; try go_bits) <;> (with_reducible rfl)); (try simp only [Act.put, nq1, nq2, nq3, nq4, nq5, nq6])
          (refine wpT_pure (v := ?_) rfl rfl ?_ ?_; rotate_left; (intro wx; go_simp; try go_bits) <;> (with_reducible rfl)); (try simp only [Act.put, nq1, nq2, nq3, nq4, nq5, nq6])
          (refine wpT_pure (v := ?_) rfl rfl ?_ ?_; rotate_left; (intro wx; go_simp; try go_bits) <;> (with_reducible rfl)); (try simp only [Act.put, nq1, nq2, nq3, nq4, nq5, nq6])
          (refine wpT_pure (v := ?_) rfl rfl ?_ ?_; rotate_left; (intro wx; go_simp; try go_bits) <;> (with_reducible rfl)); (try simp only [Act.put, nq1, nq2, nq3, nq4, nq5, nq6])
          refine wpT_loadP rfl rfl rfl rfl HS.out (.tail _ (.head _)) rowP (.all (by first | exact arr_zP | exact PtN.arr ‹_› | exact PtV.arr ‹_› | exact qE ‹_› ‹_› ‹_› ‹_›)) ?_; (try simp only [Act.put, nq1, nq2, nq3, nq4, nq5, nq6])
          refine wpT_loadP rfl rfl rfl rfl HS.out (.head _) rowQ (.all (by first | exact arr_zQ | exact QtN.arr ‹_› | exact qN ‹_› ‹_› ‹_› ‹_›)) ?_; (try simp only [Act.put, nq1, nq2, nq3, nq4, nq5, nq6])
          refine wpT_callF rfl rfl rfl en15_rd00 rfl (bytesP32 _ (by first | assumption | exact PtN.v ‹_›)) ?_; rintro e wy ⟨B3, d3, rfl, hb, ho⟩; refine ⟨_, rfl, hb, ?_⟩; have HS := hide (HS.out.row hb ho); have cv3 := fun x (hx : From wy x) => run_str (P := Tryd.prog) Tryd.underlying22 Tryd.underlying5 Tryd.underlying9 ((HS.out.rd 0 rfl).below hx); clear ho; (try simp only [Act.put, nq1, nq2, nq3, nq4, nq5, nq6])
          (refine wpT_read (v := ?_) rfl rfl ?_ ?_; rotate_left; (intro wx hx; go_simp; try go_bits) <;> (with_reducible rfl)); (try simp only [Act.put, nq1, nq2, nq3, nq4, nq5, nq6])
          refine wpT_callF rfl rfl rfl en16_rd00 rfl (packQ32 _ ‹_›) ?_; rintro e wy ⟨B4, d4, rfl, hb, ho⟩; refine ⟨_, rfl, hb, ?_⟩; have HS := hide (HS.out.row hb ho); have cv4 := fun x (hx : From wy x) => run_str (P := Tryd.prog) Tryd.underlying22 Tryd.underlying5 Tryd.underlying9 ((HS.out.rd 0 rfl).below hx); clear ho; (try simp only [Act.put, nq1, nq2, nq3, nq4, nq5, nq6])
          (refine wpT_read (v := ?_) rfl rfl ?_ ?_; rotate_left; (intro wx hx; go_simp; try go_bits) <;> (with_reducible rfl)); (try simp only [Act.put, nq1, nq2, nq3, nq4, nq5, nq6])
          (refine wpT_pure (v := ?_) rfl rfl ?_ ?_; rotate_left; (intro wx; go_simp; try go_bits) <;> (with_reducible rfl)); (try simp only [Act.put, nq1, nq2, nq3, nq4, nq5, nq6])
          (refine wpT_pure (v := ?_) rfl rfl ?_ ?_; rotate_left; (intro wx; go_simp; try go_bits) <;> (with_reducible rfl)); (try simp only [Act.put, nq1, nq2, nq3, nq4, nq5, nq6])
          (refine wpT_pure (v := ?_) rfl rfl ?_ ?_; rotate_left; (intro wx; go_simp; try go_bits) <;> (with_reducible rfl)); (try simp only [Act.put, nq1, nq2, nq3, nq4, nq5, nq6])
          (refine wpT_pure (v := ?_) rfl rfl ?_ ?_; rotate_left; (intro wx; go_simp; try go_bits) <;> (with_reducible rfl)); (try simp only [Act.put, nq1, nq2, nq3, nq4, nq5, nq6])
          (refine wpT_pure (v := ?_) rfl rfl ?_ ?_; rotate_left; (intro wx; go_simp; try go_bits) <;> (with_reducible rfl)); (try simp only [Act.put, nq1, nq2, nq3, nq4, nq5, nq6])
          (refine wpT_pure (v := ?_) rfl rfl ?_ ?_; rotate_left; (intro wx; go_simp; try go_bits) <;> (with_reducible rfl)); (try simp only [Act.put, nq1, nq2, nq3, nq4, nq5, nq6])
          refine wpT_skip rfl rfl ?_; (try simp only [Act.put, nq1, nq2, nq3, nq4, nq5, nq6])
          refine wpT_skip rfl rfl ?_; (try simp only [Act.put, nq1, nq2, nq3, nq4, nq5, nq6])
          refine wpT_skip rfl rfl ?_; (try simp only [Act.put, nq1, nq2, nq3, nq4, nq5, nq6])
          refine wpT_skip rfl rfl ?_; (try simp only [Act.put, nq1, nq2, nq3, nq4, nq5, nq6])
          refine wpT_skip rfl rfl ?_; (try simp only [Act.put, nq1, nq2, nq3, nq4, nq5, nq6])
          refine wpT_skip rfl rfl ?_; (try simp only [Act.put, nq1, nq2, nq3, nq4, nq5, nq6])
          (refine wpT_pure (v := ?_) rfl rfl ?_ ?_; rotate_left; (intro wx; go_simp; try go_bits) <;> (with_reducible rfl)); (try simp only [Act.put, nq1, nq2, nq3, nq4, nq5, nq6])
          (refine wpT_pure (v := ?_) rfl rfl ?_ ?_; rotate_left; (intro wx; go_simp; try go_bits) <;> (with_reducible rfl)); (try simp only [Act.put, nq1, nq2, nq3, nq4, nq5, nq6])
          (refine wpT_pure (v := ?_) rfl rfl ?_ ?_; rotate_left; (intro wx; go_simp; try go_bits) <;> (with_reducible rfl)); (try simp only [Act.put, nq1, nq2, nq3, nq4, nq5, nq6])
          refine wpT_callF rfl rfl rfl en9_rd00 rfl (awake4_any _) ?_; rintro e wy ⟨rfl, hb⟩; refine ⟨_, rfl, hb, ?_⟩; have HS := hide (HS.out.call hb); (try simp only [Act.put, nq1, nq2, nq3, nq4, nq5, nq6])
          (refine wpT_pure (v := ?_) rfl rfl ?_ ?_; rotate_left; (intro wx; go_simp; try go_bits) <;> (with_reducible rfl)); (try simp only [Act.put, nq1, nq2, nq3, nq4, nq5, nq6])
          (refine wpT_pure (v := ?_) rfl rfl ?_ ?_; rotate_left; (intro wx; go_simp; try go_bits) <;> (with_reducible rfl)); (try simp only [Act.put, nq1, nq2, nq3, nq4, nq5, nq6])
          refine wpT_nil ?_
          go_wp2_with fail
          go_ret
          exact ⟨rfl, HS.out.below⟩
      | some P =>
        have HFL := hide hf
        have h9 := from_len hf
        have : k = 32 := by omega
        subst this
        obtain rfl : od = false := by cases od with
          | false => rfl
          | true => exact absurd ⟨rfl, rfl⟩ h32
        clear hf hr hl hk h9 h32 d1
        go_enter Tryd.func5, Tryd.ntmps5
        have M0 := True.intro
        go_upto_region 8 with (first | (clear M5; refine wl_storeR rfl rfl rfl rfl HS.out rowQ (.head) (by first | exact arr_zQ | exact QtN.arr ‹_› | exact qN ‹_› ‹_› ‹_› ‹_›) (by first | exact arr_zQ | exact QtN.arr ‹_› | exact qN ‹_› ‹_› ‹_› ‹_›) ?_; intro wz hS9; have HS := hide hS9; clear hS9; (try simp only [Act.put, nq1, nq2, nq3, nq4, nq5, nq6]); have M6 := True.intro) | (clear M4; refine wl_allocR rfl rfl HS.out newQ ?_; intro g7 wz hS9; have HS := hide hS9; clear hS9; (try simp only [Act.put, nq1, nq2, nq3, nq4, nq5, nq6]); have M5 := True.intro) | (clear M3; go_at_call 25; (with_reducible refine (unpack_some _ (HFL.out) HL.out (HR.out.below HS.out.below)).mono ?_); rintro e wy ⟨z2, hz2, rfl, hb⟩; have HS := hide (HS.out.call hb); have M4 := True.intro) | (clear M2; refine wl_storeR rfl rfl rfl rfl HS.out rowP (.head) (by first | exact arr_zP | exact PtN.arr ‹_› | exact PtV.arr ‹_› | exact qE ‹_› ‹_› ‹_› ‹_›) (by first | exact arr_zP | exact PtN.arr ‹_› | exact PtV.arr ‹_› | exact qE ‹_› ‹_› ‹_› ‹_›) ?_; intro wz hS9; have HS := hide hS9; clear hS9; (try simp only [Act.put, nq1, nq2, nq3, nq4, nq5, nq6]); have M3 := True.intro) | (clear M1; refine wl_allocR rfl rfl HS.out newP ?_; intro g5 wz hS9; have HS := hide hS9; clear hS9; (try simp only [Act.put, nq1, nq2, nq3, nq4, nq5, nq6]); have M2 := True.intro) | (clear M0; go_at_call 24; (with_reducible refine (from_some _ (HFL.out) HL.out (HR.out.below HS.out.below)).mono ?_); rintro e wy ⟨z1, hz1, rfl, hb⟩; have HS := hide (HS.out.call hb); have M1 := True.intro))
        have HPK := hide (from_ok HFL.out)
        have HS := hide HS.out.drew
        refine wp_region_T [(0, 1), (1, 1), (2, 1), (3, 1), (4, 0), (7, 0), (5, 2), (6, 0), (8, 2), (9, 0), (10, 1), (11, 1), (12, 1), (13, 1), (14, 1), (15, 1), (16, 0), (19, 1), (20, 0), (17, 2), (18, 0), (21, 1), (22, 1), (23, 1), (24, 1), (25, 2), (26, 1), (27, 1)] (by kernel_rfl) (by kernel_rfl) (fun _ _ _ _ h => h) ?_
        (refine wpT_pure (v := ?_) rfl rfl ?_ ?_; rotate_left; (intro wx; go_simp; try go_bits) <;> (with_reducible rfl)); (try simp only [Act.put, nq1, nq2, nq3, nq4, nq5, nq6])
        (refine wpT_pure (v := ?_) rfl rfl ?_ ?_; rotate_left; (intro wx; go_simp; try go_bits) <;> (with_reducible rfl)); (try simp only [Act.put, nq1, nq2, nq3, nq4, nq5, nq6])
        (refine wpT_pure (v := ?_) rfl rfl ?_ ?_; rotate_left; (intro wx; go_simp; try go_bits) <;> (with_reducible rfl)); (try simp only [Act.put, nq1, nq2, nq3, nq4, nq5, nq6])
        (refine wpT_pure (v := ?_) rfl rfl ?_ ?_; rotate_left; (intro wx; go_simp; try go_bits) <;> (with_reducible rfl)); (try simp only [Act.put, nq1, nq2, nq3, nq4, nq5, nq6])
        refine wpT_loadP rfl rfl rfl rfl HS.out (.tail _ (.head _)) rowP (.all (by first | exact arr_zP | exact PtN.arr ‹_› | exact PtV.arr ‹_› | exact qE ‹_› ‹_› ‹_› ‹_›)) ?_; (try simp only [Act.put, nq1, nq2, nq3, nq4, nq5, nq6])
        refine wpT_loadP rfl rfl rfl rfl HS.out (.head _) rowQ (.all (by first | exact arr_zQ | exact QtN.arr ‹_› | exact qN ‹_› ‹_› ‹_› ‹_›)) ?_; (try simp only [Act.put, nq1, nq2, nq3, nq4, nq5, nq6])
        refine wpT_callF rfl rfl rfl en15_rd01 rfl (bytesP32 _ (by first | assumption | exact PtN.v ‹_›)) ?_; rintro e wy ⟨B3, d3, rfl, hb, ho⟩; refine ⟨_, rfl, hb, ?_⟩; have HS := hide (HS.out.row hb ho); have cv3 := fun x (hx : From wy x) => run_str (P := Tryd.prog) Tryd.underlying22 Tryd.underlying5 Tryd.underlying9 ((HS.out.rd 0 rfl).below hx); clear ho; (try simp only [Act.put, nq1, nq2, nq3, nq4, nq5, nq6])
        (refine wpT_read (v := ?_) rfl rfl ?_ ?_; rotate_left; (intro wx hx; go_simp; try go_bits) <;> (with_reducible rfl)); (try simp only [Act.put, nq1, nq2, nq3, nq4, nq5, nq6])
        refine wpT_callF rfl rfl rfl en16_rd01 rfl (packQ32 _ ‹_›) ?_; rintro e wy ⟨B4, d4, rfl, hb, ho⟩; refine ⟨_, rfl, hb, ?_⟩; have HS := hide (HS.out.row hb ho); have cv4 := fun x (hx : From wy x) => run_str (P := Tryd.prog) Tryd.underlying22 Tryd.underlying5 Tryd.underlying9 ((HS.out.rd 0 rfl).below hx); clear ho; (try simp only [Act.put, nq1, nq2, nq3, nq4, nq5, nq6])
        (refine wpT_read (v := ?_) rfl rfl ?_ ?_; rotate_left; (intro wx hx; go_simp; try go_bits) <;> (with_reducible rfl)); (try simp only [Act.put, nq1, nq2, nq3, nq4, nq5, nq6])
        (refine wpT_pure (v := ?_) rfl rfl ?_ ?_; rotate_left; (intro wx; go_simp; try go_bits) <;> (with_reducible rfl)); (try simp only [Act.put, nq1, nq2, nq3, nq4, nq5, nq6])
        (refine wpT_pure (v := ?_) rfl rfl ?_ ?_; rotate_left; (intro wx; go_simp; try go_bits) <;> (with_reducible rfl)); (try simp only [Act.put, nq1, nq2, nq3, nq4, nq5, nq6])
        (refine wpT_pure (v := ?_) rfl rfl ?_ ?_; rotate_left; (intro wx; go_simp; try go_bits) <;> (with_reducible rfl)); (try simp only [Act.put, nq1, nq2, nq3, nq4, nq5, nq6])
        (refine wpT_pure (v := ?_) rfl rfl ?_ ?_; rotate_left; (intro wx; go_simp; try go_bits) <;> (with_reducible rfl)); (try simp only [Act.put, nq1, nq2, nq3, nq4, nq5, nq6])
        (refine wpT_pure (v := ?_) rfl rfl ?_ ?_; rotate_left; (intro wx; go_simp; try go_bits) <;> (with_reducible rfl)); (try simp only [Act.put, nq1, nq2, nq3, nq4, nq5, nq6])
        (refine wpT_pure (v := ?_) rfl rfl ?_ ?_; rotate_left; (intro wx; go_simp; try go_bits) <;> (with_reducible rfl)); (try simp only [Act.put, nq1, nq2, nq3, nq4, nq5, nq6])
        refine wpT_loadP rfl rfl rfl rfl HS.out (.tail _ (.tail _ (.tail _ (.head _)))) rowP (.all (by first | exact arr_zP | exact PtN.arr ‹_› | exact PtV.arr ‹_› | exact qE ‹_› ‹_› ‹_› ‹_›)) ?_; (try simp only [Act.put, nq1, nq2, nq3, nq4, nq5, nq6])
        (refine wpT_pure (v := ?_) rfl rfl ?_ ?_; rotate_left; (intro wx; go_simp; try go_bits) <;> (with_reducible rfl)); (try simp only [Act.put, nq1, nq2, nq3, nq4, nq5, nq6])
        have cvo := fun x (hx : From _ x) => run_str (P := Tryd.prog) Tryd.underlying22 Tryd.underlying5 Tryd.underlying9 ((HR.out.below HS.out.below).below hx)
        (refine wpT_read (v := ?_) rfl rfl ?_ ?_; rotate_left; (intro wx hx; go_simp; try go_bits) <;> (with_reducible rfl)); (try simp only [Act.put, nq1, nq2, nq3, nq4, nq5, nq6])
        clear cvo
        refine wpT_callF rfl rfl rfl en15_rd01 rfl (bytesP32 _ (by first | assumption | exact PtN.v ‹_›)) ?_; rintro e wy ⟨B5, d5, rfl, hb, ho⟩; rw [HPK.out] at ho; refine ⟨_, rfl, hb, ?_⟩; have HS := hide (HS.out.row hb ho); have cv5 := fun x (hx : From wy x) => run_str (P := Tryd.prog) Tryd.underlying22 Tryd.underlying5 Tryd.underlying9 ((HS.out.rd 0 rfl).below hx); clear ho; (try simp only [Act.put, nq1, nq2, nq3, nq4, nq5, nq6])
        (refine wpT_read (v := ?_) rfl rfl ?_ ?_; rotate_left; (intro wx hx; go_simp; try go_bits) <;> (with_reducible rfl)); (try simp only [Act.put, nq1, nq2, nq3, nq4, nq5, nq6])
        (refine wpT_pure (v := ?_) rfl rfl ?_ ?_; rotate_left; (intro wx; go_simp; try go_bits) <;> (with_reducible rfl)); (try simp only [Act.put, nq1, nq2, nq3, nq4, nq5, nq6])
        (refine wpT_pure (v := ?_) rfl rfl ?_ ?_; rotate_left; (intro wx; go_simp; try go_bits) <;> (with_reducible rfl)); (try simp only [Act.put, nq1, nq2, nq3, nq4, nq5, nq6])
        (refine wpT_pure (v := ?_) rfl rfl ?_ ?_; rotate_left; (intro wx; go_simp; try go_bits) <;> (with_reducible rfl)); (try simp only [Act.put, nq1, nq2, nq3, nq4, nq5, nq6])
        (refine wpT_pure (v := ?_) rfl rfl ?_ ?_; rotate_left; (intro wx; go_simp; try go_bits) <;> (with_reducible rfl)); (try simp only [Act.put, nq1, nq2, nq3, nq4, nq5, nq6])
        refine wpT_callF rfl rfl rfl en9_rd01 rfl (awake4_any _) ?_; rintro e wy ⟨rfl, hb⟩; refine ⟨_, rfl, hb, ?_⟩; have HS := hide (HS.out.call hb); (try simp only [Act.put, nq1, nq2, nq3, nq4, nq5, nq6])
        (refine wpT_pure (v := ?_) rfl rfl ?_ ?_; rotate_left; (intro wx; go_simp; try go_bits) <;> (with_reducible rfl)); (try simp only [Act.put, nq1, nq2, nq3, nq4, nq5, nq6])
        (refine wpT_pure (v := ?_) rfl rfl ?_ ?_; rotate_left; (intro wx; go_simp; try go_bits) <;> (with_reducible rfl)); (try simp only [Act.put, nq1, nq2, nq3, nq4, nq5, nq6])
        refine wpT_nil ?_
        go_wp2_with fail
        go_ret
        exact ⟨rfl, HS.out.below⟩
  · have dk : decide ((100 : Int) < (k : Int)) = true := by simp; omega
    have dk2 : decide (100 < k) = true := by simp; omega
    have HS := hide (St.init w NoB)
    go_enter Tryd.func5, Tryd.ntmps5
    go_wp2_with (go_at_call 9; (with_reducible refine (awake4_any _).mono ?_); rintro e wy ⟨rfl, hb⟩; have HS := hide (HS.out.call hb))
    go_ret
    exact ⟨rfl, HS.out.below⟩
end Go.Proofs.YtgahjjdbpjgemaaDoor

/-
  Layer 4: the walk of PointSmall.
-/
namespace Go.Proofs.YtgahjjdbpjgemaaDoor
open Go.RowKit
set_option linter.unusedSimpArgs false
/-- An operation that makes a block, in a drawn region. -/
theorem wpT_new {P : Program} {ops : Array Oper} {Q : Exit → Act → World → Prop} {rest : List (Nat × Nat)} {i : Nat} {o : Oper} {a : Act} {w : World} {v : Value} {ob : Obj} (ho : ops[i]? = some o) (hw : Region.wanted o (yielded ops a.tmps) = true)
    (hr : (execOp a.eval o).run P w = .ok (.value v) (w.alloc ob)) (h : wpT P ops Q rest (a.put o.dst v) (w.alloc ob)) : wpT P ops Q ((i, 2) :: rest) a w :=
  wpT_call ho hw fun K hK => by
    unfold Oper.wp
    rw [hr]
    exact hK _ _ ⟨(Below.refl _ _).alloc (Nat.le_refl _) _, h⟩
def ffL (j : Nat) : List UInt8 := List.replicate j 255 ++ List.replicate (32 - j) 0
theorem ffL_len (j : Nat) (h : j ≤ 32) : (ffL j).length = 32 := by unfold ffL; simp; omega
theorem ffL_set (j : Nat) (h : j < 32) : (ffL j).set j 255 = ffL (j + 1) := by
  have : ∀ k : Fin 32, (ffL k.val).set k.val 255 = ffL (k.val + 1) := by decide +kernel
  exact this ⟨j, h⟩
theorem ffL_get (j : Nat) (h : j < 32) : (ffL j)[j]? = some 0 := by
  have : ∀ k : Fin 32, (ffL k.val)[k.val]? = some 0 := by decide +kernel
  exact this ⟨j, h⟩
theorem ffL_end : ((ffL 32).set 0 236).set 31 127 = twoL := by decide +kernel
theorem en10_ps (args : Array Value) (w : World) : (callFunc 10 args).run Tryd.prog w = .ok (.enter 10 args) w := by kernel_rfl
theorem en11_ps (args : Array Value) (w : World) : (callFunc 11 args).run Tryd.prog w = .ok (.enter 11 args) w := by kernel_rfl
theorem en17_ps (args : Array Value) (w : World) : (callFunc 17 args).run Tryd.prog w = .ok (.enter 17 args) w := by kernel_rfl
theorem en21_ps (args : Array Value) (w : World) : (callFunc 21 args).run Tryd.prog w = .ok (.enter 21 args) w := by kernel_rfl
theorem en23_ps (args : Array Value) (w : World) : (callFunc 23 args).run Tryd.prog w = .ok (.enter 23 args) w := by kernel_rfl
theorem en27_ps (args : Array Value) (w : World) : (callFunc 27 args).run Tryd.prog w = .ok (.enter 27 args) w := by kernel_rfl
theorem en9_ps (args : Array Value) (w : World) : (callFunc 9 args).run Tryd.prog w = .ok (.enter 9 args) w := by kernel_rfl
set_option maxRecDepth 100000 in
set_option maxHeartbeats 6400000 in
theorem pointSmall_walk (n : Int) (w : World) (hn : I64 n) : Calls Tryd.prog 8 #[.int .i64 n] w fun e w' => e = .returned (.bool true) ∧ Below w.heap.size w w' := by
  obtain ⟨m, hm⟩ : ∃ m, m = (n % 65536).toNat := ⟨_, rfl⟩
  have hv := smL_val n
  have ha := and_65535 n
  rw [← hm] at hv ha
  have hm2 : m < 65536 := by omega
  have HSM := hide (show decide (packL (tmE (tmE Bp (mulV (smL n))) 8) = packL .zero) = decide (m = 0) by rw [hv]; exact small_dec hm2)
  have HD := hide (show decide ((m : Int) = 0) = decide (m = 0) from decide_eq_decide.2 (by omega))
  clear hm hv
  have HS := hide (St.init w NoB)
  go_enter Tryd.func8, Tryd.ntmps8
  go_wp2_with (refine wl_makeB (n := 32) rfl rfl Tryd.underlying22 infoB HS.out rfl rfl (by decide) ?_; intro gb w1 hS1 hb1; have HS := hide hS1; clear hS1 hb1)
  go_loopw [12] (fun iv wr => ∃ j : Nat, j ≤ 32 ∧ iv = .int .i64 (j : Int) ∧ Hid (St w NoB wr [.row (.slice (some ⟨gb, 0, none⟩) 32 32) 5 1 32 (bvs (ffL j))])) (fun iv _ => 32 - (intOf iv).toNat)
  case atStart => exact ⟨0, by omega, rfl, HS⟩
  case round =>
    clear HS
    obtain ⟨j, hj, rfl, HS⟩ := hrel
    by_cases hlt : j < 32
    · have dj : decide ((j : Int) < 32) = true := by simp; omega
      have j32 : (j : Int) < 32 := by omega
      obtain ⟨g9, c9, hvv, _, _, hcs, hfr, _⟩ := HS.out.rowOpen 0 rfl (by omega)
      injection hvv with hvv1 _ hvv3
      injection hvv1 with hvv1
      injection hvv1 with hvv1
      subst hvv1 hvv3
      have k0 := hcs j _ (bvs_get (ffL_get j hlt))
      have f0 := hfr j
      have HT := hide (ffL_set j hlt)
      clear hcs hfr
      go_wp2_with fail
      go_roundw
      case rel =>
        have h3 := HS.out.rowSet 0 rfl j (.int .u8 (255 : Nat)) (by omega)
        rw [List.set_cons_zero, bvs_set _ _ _ (by omega)] at h3
        refine ⟨j + 1, by omega, by go_num, hide ?_⟩
        rw [← HT.out]
        exact h3
      case measure => (simp [intOf]) <;> omega
    · obtain rfl : j = 32 := by omega
      clear hlt hj
      obtain ⟨g9, c9, hvv, _, _, hcs, hfr, _⟩ := HS.out.rowOpen 0 rfl (by omega)
      injection hvv with hvv1 _ hvv3
      injection hvv1 with hvv1
      injection hvv1 with hvv1
      subst hvv1 hvv3
      have k0 := hcs 0 _ (bvs_get (show (ffL 32)[0]? = some 255 from rfl))
      have k31 := hcs 31 _ (bvs_get (show (ffL 32)[31]? = some 255 from rfl))
      have f0 := hfr 0
      have f31 := hfr 31
      clear hcs hfr
      go_upto_region 8 with fail
      have h3 := HS.out.rowSet 0 rfl 0 (.int .u8 (236 : Nat)) (by omega)
      rw [List.set_cons_zero, bvs_set _ _ _ (by omega)] at h3
      have h4 := h3.rowSet 0 rfl 31 (.int .u8 (127 : Nat)) (by omega)
      rw [List.set_cons_zero, bvs_set _ _ _ (by omega)] at h4
      have HS := hide (show St w NoB ((wr.setCell ⟨gb, 0, none⟩ (.int .u8 236)).setCell ⟨gb, 31, none⟩ (.int .u8 127)) [.row (.slice (some ⟨gb, 0, none⟩) 32 32) 5 1 32 (bvs twoL)] from by rw [← ffL_end]; exact h4)
      clear h3 h4 f0 f31 k0 k31
      have M0 := True.intro
      go_upto_region 13 with (first | (clear M20; refine wl_storeR rfl rfl rfl rfl HS.out rowP (.head) (by first | exact arr_zP | exact PtN.arr ‹_› | exact PtV.arr ‹_› | exact qE ‹_› ‹_› ‹_› ‹_›) (by first | exact arr_zP | exact PtN.arr ‹_› | exact PtV.arr ‹_› | exact qE ‹_› ‹_› ‹_› ‹_›) ?_; intro wz hS9; have HS := hide hS9; clear hS9; (try simp only [Act.put, nq1, nq2, nq3, nq4, nq5, nq6]); have M21 := True.intro) | (clear M19; go_at_call 17; (with_reducible refine (addP _ (by first | assumption | exact PtN.v ‹_›) (by first | assumption | exact PtN.v ‹_›)).mono ?_); rintro e wy ⟨z7, hz7, rfl, hb⟩; have HS := hide (HS.out.call hb); have M20 := True.intro) | (clear M18; refine wl_loadP rfl rfl rfl HS.out (.head _) rowP (.all (by first | exact arr_zP | exact PtN.arr ‹_› | exact PtV.arr ‹_› | exact qE ‹_› ‹_› ‹_› ‹_›)) ?_; (try simp only [Act.put, nq1, nq2, nq3, nq4, nq5, nq6]); have M19 := True.intro) | (clear M17; refine wl_loadP rfl rfl rfl HS.out (.head _) rowP (.all (by first | exact arr_zP | exact PtN.arr ‹_› | exact PtV.arr ‹_› | exact qE ‹_› ‹_› ‹_› ‹_›)) ?_; (try simp only [Act.put, nq1, nq2, nq3, nq4, nq5, nq6]); have M18 := True.intro) | (clear M16; refine wl_storeR rfl rfl rfl rfl HS.out rowP (.head) (by first | exact arr_zP | exact PtN.arr ‹_› | exact PtV.arr ‹_› | exact qE ‹_› ‹_› ‹_› ‹_›) (by first | exact arr_zP | exact PtN.arr ‹_› | exact PtV.arr ‹_› | exact qE ‹_› ‹_› ‹_› ‹_›) ?_; intro wz hS9; have HS := hide hS9; clear hS9; (try simp only [Act.put, nq1, nq2, nq3, nq4, nq5, nq6]); have M17 := True.intro) | (clear M15; go_at_call 17; (with_reducible refine (addP _ (by first | assumption | exact PtN.v ‹_›) (by first | assumption | exact PtN.v ‹_›)).mono ?_); rintro e wy ⟨z6, hz6, rfl, hb⟩; have HS := hide (HS.out.call hb); have M16 := True.intro) | (clear M14; refine wl_loadP rfl rfl rfl HS.out (.head _) rowP (.all (by first | exact arr_zP | exact PtN.arr ‹_› | exact PtV.arr ‹_› | exact qE ‹_› ‹_› ‹_› ‹_›)) ?_; (try simp only [Act.put, nq1, nq2, nq3, nq4, nq5, nq6]); have M15 := True.intro) | (clear M13; refine wl_loadP rfl rfl rfl HS.out (.head _) rowP (.all (by first | exact arr_zP | exact PtN.arr ‹_› | exact PtV.arr ‹_› | exact qE ‹_› ‹_› ‹_› ‹_›)) ?_; (try simp only [Act.put, nq1, nq2, nq3, nq4, nq5, nq6]); have M14 := True.intro) | (clear M12; refine wl_storeR rfl rfl rfl rfl HS.out rowP (.head) (by first | exact arr_zP | exact PtN.arr ‹_› | exact PtV.arr ‹_› | exact qE ‹_› ‹_› ‹_› ‹_›) (by first | exact arr_zP | exact PtN.arr ‹_› | exact PtV.arr ‹_› | exact qE ‹_› ‹_› ‹_› ‹_›) ?_; intro wz hS9; have HS := hide hS9; clear hS9; (try simp only [Act.put, nq1, nq2, nq3, nq4, nq5, nq6]); have M13 := True.intro) | (clear M11; refine wl_allocR rfl rfl HS.out newP ?_; intro g8 wz hS9; have HS := hide hS9; clear hS9; (try simp only [Act.put, nq1, nq2, nq3, nq4, nq5, nq6]); have M12 := True.intro) | (clear M10; go_at_call 17; (with_reducible refine (addP _ (by first | assumption | exact PtN.v ‹_›) (by first | assumption | exact PtN.v ‹_›)).mono ?_); rintro e wy ⟨z5, hz5, rfl, hb⟩; have HS := hide (HS.out.call hb); have M11 := True.intro) | (clear M9; refine wl_loadP rfl rfl rfl HS.out (.head _) rowP (.all (by first | exact arr_zP | exact PtN.arr ‹_› | exact PtV.arr ‹_› | exact qE ‹_› ‹_› ‹_› ‹_›)) ?_; (try simp only [Act.put, nq1, nq2, nq3, nq4, nq5, nq6]); have M10 := True.intro) | (clear M8; refine wl_loadP rfl rfl rfl HS.out (.head _) rowP (.all (by first | exact arr_zP | exact PtN.arr ‹_› | exact PtV.arr ‹_› | exact qE ‹_› ‹_› ‹_› ‹_›)) ?_; (try simp only [Act.put, nq1, nq2, nq3, nq4, nq5, nq6]); have M9 := True.intro) | (clear M7; refine wl_storeR rfl rfl rfl rfl HS.out rowP (.head) (by first | exact arr_zP | exact PtN.arr ‹_› | exact PtV.arr ‹_› | exact qE ‹_› ‹_› ‹_› ‹_›) (by first | exact arr_zP | exact PtN.arr ‹_› | exact PtV.arr ‹_› | exact qE ‹_› ‹_› ‹_› ‹_›) ?_; intro wz hS9; have HS := hide hS9; clear hS9; (try simp only [Act.put, nq1, nq2, nq3, nq4, nq5, nq6]); have M8 := True.intro) | (clear M6; refine wl_allocR rfl rfl HS.out newP ?_; intro g7 wz hS9; have HS := hide hS9; clear hS9; (try simp only [Act.put, nq1, nq2, nq3, nq4, nq5, nq6]); have M7 := True.intro) | (clear M5; go_at_call 11; (with_reducible refine (mulP_any _ _ _ _ _ (by first | assumption | exact PtN.v ‹_›) (smL_len _) (by omega) hrs3).mono ?_); rintro e wy ⟨z4, hz4, rfl, hb⟩; have HS := hide (HS.out.call hb); have M6 := True.intro) | (clear M4; go_at_call 12; (with_reducible refine (small_any _ _ (by assumption)).mono ?_); rintro e wy ⟨gs3, rfl, hb, hrs3⟩; have HS := hide (HS.out.call hb); have M5 := True.intro) | (clear M3; go_at_call 10; (with_reducible refine (baseP _).mono ?_); rintro e wy ⟨z2, hz2, rfl, hb⟩; have HS := hide (HS.out.call hb); have M4 := True.intro) | (clear M2; refine wl_storeR rfl rfl rfl rfl HS.out rowP (.head) (by first | exact arr_zP | exact PtN.arr ‹_› | exact PtV.arr ‹_› | exact qE ‹_› ‹_› ‹_› ‹_›) (by first | exact arr_zP | exact PtN.arr ‹_› | exact PtV.arr ‹_› | exact qE ‹_› ‹_› ‹_› ‹_›) ?_; intro wz hS9; have HS := hide hS9; clear hS9; (try simp only [Act.put, nq1, nq2, nq3, nq4, nq5, nq6]); have M3 := True.intro) | (clear M1; refine wl_allocR rfl rfl HS.out newP ?_; intro g5 wz hS9; have HS := hide hS9; clear hS9; (try simp only [Act.put, nq1, nq2, nq3, nq4, nq5, nq6]); have M2 := True.intro) | (clear M0; go_at_call 24; (with_reducible refine (from_some _ from_two (from_len from_two) (HS.out.rd 0 rfl)).mono ?_); rintro e wy ⟨z1, hz1, rfl, hb⟩; have HS := hide (HS.out.call hb); have M1 := True.intro))
      have HD2 := HD.out
      have HD3 : ((m : Int) == 0) = decide (m = 0) := HD2
      have HS := hide HS.out.drew
      refine wp_region_T [(0, 1), (1, 1), (2, 0), (3, 2), (4, 1), (5, 1), (6, 0), (7, 0), (8, 2), (9, 2), (10, 2), (11, 1), (12, 1), (13, 0), (14, 2), (15, 2), (16, 1), (17, 1), (18, 1), (19, 2), (20, 2), (21, 1), (22, 1), (23, 1), (24, 0), (27, 0), (25, 2), (26, 2), (28, 2), (29, 1), (30, 1), (31, 0), (33, 1), (34, 1), (35, 1), (32, 2), (36, 1), (37, 1), (38, 1), (39, 0), (40, 0), (43, 1), (44, 1), (45, 1), (41, 2), (42, 2), (46, 1), (47, 1), (48, 1), (49, 2), (50, 1), (51, 1)] (by kernel_rfl) (by kernel_rfl) (fun _ _ _ _ h => h) ?_
      (refine wpT_pure (v := ?_) rfl rfl ?_ ?_; rotate_left; (intro wx; go_simp; try go_bits) <;> (with_reducible rfl)); (try simp only [Act.put, nq1, nq2, nq3, nq4, nq5, nq6])
      (refine wpT_pure (v := ?_) rfl rfl ?_ ?_; rotate_left; (intro wx; go_simp; try go_bits) <;> (with_reducible rfl)); (try simp only [Act.put, nq1, nq2, nq3, nq4, nq5, nq6])
      refine wpT_loadP rfl rfl rfl rfl HS.out (.tail _ (.tail _ (.head _))) rowP (.all (by first | exact arr_zP | exact PtN.arr ‹_› | exact PtV.arr ‹_› | exact qE ‹_› ‹_› ‹_› ‹_›)) ?_; (try simp only [Act.put, nq1, nq2, nq3, nq4, nq5, nq6])
      refine wpT_callF rfl rfl rfl en27_ps rfl (smallP _ (by first | assumption | exact PtN.v ‹_›)) ?_; rintro e wy ⟨rfl, hb⟩; rw [dec_t t2_eight]; refine ⟨_, rfl, hb, ?_⟩; have HS := hide (HS.out.call hb); (try simp only [Act.put, nq1, nq2, nq3, nq4, nq5, nq6])
      (refine wpT_pure (v := ?_) rfl rfl ?_ ?_; rotate_left; (intro wx; go_simp; try go_bits) <;> (with_reducible rfl)); (try simp only [Act.put, nq1, nq2, nq3, nq4, nq5, nq6])
      (refine wpT_pure (v := ?_) rfl rfl ?_ ?_; rotate_left; (intro wx; go_simp; try go_bits) <;> (with_reducible rfl)); (try simp only [Act.put, nq1, nq2, nq3, nq4, nq5, nq6])
      refine wpT_loadP rfl rfl rfl rfl HS.out (.tail _ (.tail _ (.head _))) rowP (.all (by first | exact arr_zP | exact PtN.arr ‹_› | exact PtV.arr ‹_› | exact qE ‹_› ‹_› ‹_› ‹_›)) ?_; (try simp only [Act.put, nq1, nq2, nq3, nq4, nq5, nq6])
      refine wpT_loadP rfl rfl rfl rfl HS.out (.tail _ (.tail _ (.head _))) rowP (.all (by first | exact arr_zP | exact PtN.arr ‹_› | exact PtV.arr ‹_› | exact qE ‹_› ‹_› ‹_› ‹_›)) ?_; (try simp only [Act.put, nq1, nq2, nq3, nq4, nq5, nq6])
      refine wpT_callF rfl rfl rfl en17_ps rfl (addP _ (by first | assumption | exact PtN.v ‹_›) (by first | assumption | exact PtN.v ‹_›)) ?_; rintro e wy ⟨z9, hz9, rfl, hb⟩; refine ⟨_, rfl, hb, ?_⟩; have HS := hide (HS.out.call hb); (try simp only [Act.put, nq1, nq2, nq3, nq4, nq5, nq6])
      refine wpT_callF rfl rfl rfl en23_ps rfl (zeroP _) ?_; rintro e wy ⟨z10, hz10, rfl, hb⟩; refine ⟨_, rfl, hb, ?_⟩; have HS := hide (HS.out.call hb); (try simp only [Act.put, nq1, nq2, nq3, nq4, nq5, nq6])
      refine wpT_callF rfl rfl rfl en21_ps rfl (sameP _ (by first | assumption | exact PtN.v ‹_›) (by first | assumption | exact PtN.v ‹_›)) ?_; rintro e wy ⟨rfl, hb⟩; rw [dec_t t2_add]; refine ⟨_, rfl, hb, ?_⟩; have HS := hide (HS.out.call hb); (try simp only [Act.put, nq1, nq2, nq3, nq4, nq5, nq6])
      (refine wpT_pure (v := ?_) rfl rfl ?_ ?_; rotate_left; (intro wx; go_simp; try go_bits) <;> (with_reducible rfl)); (try simp only [Act.put, nq1, nq2, nq3, nq4, nq5, nq6])
      (refine wpT_pure (v := ?_) rfl rfl ?_ ?_; rotate_left; (intro wx; go_simp; try go_bits) <;> (with_reducible rfl)); (try simp only [Act.put, nq1, nq2, nq3, nq4, nq5, nq6])
      refine wpT_loadP rfl rfl rfl rfl HS.out (.tail _ (.tail _ (.head _))) rowP (.all (by first | exact arr_zP | exact PtN.arr ‹_› | exact PtV.arr ‹_› | exact qE ‹_› ‹_› ‹_› ‹_›)) ?_; (try simp only [Act.put, nq1, nq2, nq3, nq4, nq5, nq6])
      refine wpT_callF rfl rfl rfl en23_ps rfl (zeroP _) ?_; rintro e wy ⟨z12, hz12, rfl, hb⟩; refine ⟨_, rfl, hb, ?_⟩; have HS := hide (HS.out.call hb); (try simp only [Act.put, nq1, nq2, nq3, nq4, nq5, nq6])
      refine wpT_callF rfl rfl rfl en21_ps rfl (sameP _ (by first | assumption | exact PtN.v ‹_›) (by first | assumption | exact PtN.v ‹_›)) ?_; rintro e wy ⟨rfl, hb⟩; rw [dec_f t2_ne]; refine ⟨_, rfl, hb, ?_⟩; have HS := hide (HS.out.call hb); (try simp only [Act.put, nq1, nq2, nq3, nq4, nq5, nq6])
      (refine wpT_pure (v := ?_) rfl rfl ?_ ?_; rotate_left; (intro wx; go_simp; try go_bits) <;> (with_reducible rfl)); (try simp only [Act.put, nq1, nq2, nq3, nq4, nq5, nq6])
      (refine wpT_pure (v := ?_) rfl rfl ?_ ?_; rotate_left; (intro wx; go_simp; try go_bits) <;> (with_reducible rfl)); (try simp only [Act.put, nq1, nq2, nq3, nq4, nq5, nq6])
      (refine wpT_pure (v := ?_) rfl rfl ?_ ?_; rotate_left; (intro wx; go_simp; try go_bits) <;> (with_reducible rfl)); (try simp only [Act.put, nq1, nq2, nq3, nq4, nq5, nq6])
      refine wpT_callF rfl rfl rfl en10_ps rfl (baseP _) ?_; rintro e wy ⟨z14, hz14, rfl, hb⟩; refine ⟨_, rfl, hb, ?_⟩; have HS := hide (HS.out.call hb); (try simp only [Act.put, nq1, nq2, nq3, nq4, nq5, nq6])
      refine wpT_callF rfl rfl rfl en27_ps rfl (smallP _ (by first | assumption | exact PtN.v ‹_›)) ?_; rintro e wy ⟨rfl, hb⟩; rw [base_small]; refine ⟨_, rfl, hb, ?_⟩; have HS := hide (HS.out.call hb); (try simp only [Act.put, nq1, nq2, nq3, nq4, nq5, nq6])
      (refine wpT_pure (v := ?_) rfl rfl ?_ ?_; rotate_left; (intro wx; go_simp; try go_bits) <;> (with_reducible rfl)); (try simp only [Act.put, nq1, nq2, nq3, nq4, nq5, nq6])
      (refine wpT_pure (v := ?_) rfl rfl ?_ ?_; rotate_left; (intro wx; go_simp; try go_bits) <;> (with_reducible rfl)); (try simp only [Act.put, nq1, nq2, nq3, nq4, nq5, nq6])
      (refine wpT_pure (v := ?_) rfl rfl ?_ ?_; rotate_left; (intro wx; go_simp; try go_bits) <;> (with_reducible rfl)); (try simp only [Act.put, nq1, nq2, nq3, nq4, nq5, nq6])
      refine wpT_loadP rfl rfl rfl rfl HS.out (.tail _ (.head _)) rowP (.all (by first | exact arr_zP | exact PtN.arr ‹_› | exact PtV.arr ‹_› | exact qE ‹_› ‹_› ‹_› ‹_›)) ?_; (try simp only [Act.put, nq1, nq2, nq3, nq4, nq5, nq6])
      refine wpT_loadP rfl rfl rfl rfl HS.out (.head _) rowP (.all (by first | exact arr_zP | exact PtN.arr ‹_› | exact PtV.arr ‹_› | exact qE ‹_› ‹_› ‹_› ‹_›)) ?_; (try simp only [Act.put, nq1, nq2, nq3, nq4, nq5, nq6])
      refine wpT_new (v := .slice (some ⟨wy.heap.size, 0, none⟩) 1 1) (ob := .cells #[.int .u8 8] 5) rfl rfl (by kernel_rfl) ?_; have hr8 := rd_new wy [.int .u8 8] 5 1 1 rfl (by decide); have HS := hide (HS.out.skip (.cells #[.int .u8 8] 5)); (try simp only [Act.put, nq1, nq2, nq3, nq4, nq5, nq6])
      refine wpT_callF rfl rfl rfl en11_ps rfl (mulP_any _ _ _ [8] _ (by first | assumption | exact PtN.v ‹_›) rfl (by decide) hr8) ?_; rintro e wy ⟨z99, hz99, rfl, hb⟩; refine ⟨_, rfl, hb, ?_⟩; have HS := hide (HS.out.call hb); (try simp only [Act.put, nq1, nq2, nq3, nq4, nq5, nq6])
      refine wpT_callF rfl rfl rfl en21_ps rfl (sameP _ (by first | assumption | exact PtN.v ‹_›) (by first | assumption | exact PtN.v ‹_›)) ?_; rintro e wy ⟨rfl, hb⟩; rw [dec_t (by show tmE _ 8 = _; exact tm_eight _)]; refine ⟨_, rfl, hb, ?_⟩; have HS := hide (HS.out.call hb); (try simp only [Act.put, nq1, nq2, nq3, nq4, nq5, nq6])
      (refine wpT_pure (v := ?_) rfl rfl ?_ ?_; rotate_left; (intro wx; go_simp; try go_bits) <;> (with_reducible rfl)); (try simp only [Act.put, nq1, nq2, nq3, nq4, nq5, nq6])
      (refine wpT_pure (v := ?_) rfl rfl ?_ ?_; rotate_left; (intro wx; go_simp; try go_bits) <;> (with_reducible rfl)); (try simp only [Act.put, nq1, nq2, nq3, nq4, nq5, nq6])
      refine wpT_loadP rfl rfl rfl rfl HS.out (.tail _ (.head _)) rowP (.all (by first | exact arr_zP | exact PtN.arr ‹_› | exact PtV.arr ‹_› | exact qE ‹_› ‹_› ‹_› ‹_›)) ?_; (try simp only [Act.put, nq1, nq2, nq3, nq4, nq5, nq6])
      (refine wpT_pure (v := ?_) rfl rfl ?_ ?_; rotate_left; (intro wx; go_simp; try go_bits) <;> (with_reducible rfl)); (try simp only [Act.put, nq1, nq2, nq3, nq4, nq5, nq6])
      (refine wpT_pure (v := ?_) rfl rfl ?_ ?_; rotate_left; (intro wx; go_simp; try go_bits) <;> (with_reducible rfl)); (try simp only [Act.put, nq1, nq2, nq3, nq4, nq5, nq6])
      (refine wpT_pure (v := ?_) rfl rfl ?_ ?_; rotate_left; (intro wx; go_simp; try go_bits) <;> (with_reducible rfl)); (try simp only [Act.put, nq1, nq2, nq3, nq4, nq5, nq6])
      refine wpT_callF rfl rfl rfl en27_ps rfl (smallP _ (by first | assumption | exact PtN.v ‹_›)) ?_; rintro e wy ⟨rfl, hb⟩; rw [HSM.out]; refine ⟨_, rfl, hb, ?_⟩; have HS := hide (HS.out.call hb); (try simp only [Act.put, nq1, nq2, nq3, nq4, nq5, nq6])
      (refine wpT_pure (v := ?_) rfl rfl ?_ ?_; rotate_left; (intro wx; go_simp; try go_bits) <;> (with_reducible rfl)); (try simp only [Act.put, nq1, nq2, nq3, nq4, nq5, nq6])
      (refine wpT_pure (v := ?_) rfl rfl ?_ ?_; rotate_left; (intro wx; go_simp; try go_bits) <;> (with_reducible rfl)); (try simp only [Act.put, nq1, nq2, nq3, nq4, nq5, nq6])
      (refine wpT_pure (v := ?_) rfl rfl ?_ ?_; rotate_left; (intro wx; go_simp; try go_bits) <;> (with_reducible rfl)); (try simp only [Act.put, nq1, nq2, nq3, nq4, nq5, nq6])
      refine wpT_loadP rfl rfl rfl rfl HS.out (.tail _ (.head _)) rowP (.all (by first | exact arr_zP | exact PtN.arr ‹_› | exact PtV.arr ‹_› | exact qE ‹_› ‹_› ‹_› ‹_›)) ?_; (try simp only [Act.put, nq1, nq2, nq3, nq4, nq5, nq6])
      refine wpT_loadP rfl rfl rfl rfl HS.out (.tail _ (.tail _ (.head _))) rowP (.all (by first | exact arr_zP | exact PtN.arr ‹_› | exact PtV.arr ‹_› | exact qE ‹_› ‹_› ‹_› ‹_›)) ?_; (try simp only [Act.put, nq1, nq2, nq3, nq4, nq5, nq6])
      (refine wpT_pure (v := ?_) rfl rfl ?_ ?_; rotate_left; (intro wx; go_simp; try go_bits) <;> (with_reducible rfl)); (try simp only [Act.put, nq1, nq2, nq3, nq4, nq5, nq6])
      (refine wpT_pure (v := ?_) rfl rfl ?_ ?_; rotate_left; (intro wx; go_simp; try go_bits) <;> (with_reducible rfl)); (try simp only [Act.put, nq1, nq2, nq3, nq4, nq5, nq6])
      (refine wpT_pure (v := ?_) rfl rfl ?_ ?_; rotate_left; (intro wx; go_simp; try go_bits) <;> (with_reducible rfl)); (try simp only [Act.put, nq1, nq2, nq3, nq4, nq5, nq6])
      refine wpT_callF rfl rfl rfl en17_ps rfl (addP _ (by first | assumption | exact PtN.v ‹_›) (by first | assumption | exact PtN.v ‹_›)) ?_; rintro e wy ⟨z18, hz18, rfl, hb⟩; refine ⟨_, rfl, hb, ?_⟩; have HS := hide (HS.out.call hb); (try simp only [Act.put, nq1, nq2, nq3, nq4, nq5, nq6])
      refine wpT_callF rfl rfl rfl en27_ps rfl (smallP _ (by first | assumption | exact PtN.v ‹_›)) ?_; rintro e wy ⟨rfl, hb⟩; rw [sum_two, HSM.out]; refine ⟨_, rfl, hb, ?_⟩; have HS := hide (HS.out.call hb); (try simp only [Act.put, nq1, nq2, nq3, nq4, nq5, nq6])
      (refine wpT_pure (v := ?_) rfl rfl ?_ ?_; rotate_left; (intro wx; go_simp; try go_bits) <;> (with_reducible rfl)); (try simp only [Act.put, nq1, nq2, nq3, nq4, nq5, nq6])
      (refine wpT_pure (v := ?_) rfl rfl ?_ ?_; rotate_left; (intro wx; go_simp; try go_bits) <;> (with_reducible rfl)); (try simp only [Act.put, nq1, nq2, nq3, nq4, nq5, nq6])
      (refine wpT_pure (v := ?_) rfl rfl ?_ ?_; rotate_left; (intro wx; go_simp; try go_bits) <;> (with_reducible rfl)); (try simp only [Act.put, nq1, nq2, nq3, nq4, nq5, nq6])
      refine wpT_callF rfl rfl rfl en9_ps rfl (awake4_any _) ?_; rintro e wy ⟨rfl, hb⟩; refine ⟨_, rfl, hb, ?_⟩; have HS := hide (HS.out.call hb); (try simp only [Act.put, nq1, nq2, nq3, nq4, nq5, nq6])
      (refine wpT_pure (v := ?_) rfl rfl ?_ ?_; rotate_left; (intro wx; go_simp; try go_bits) <;> (with_reducible rfl)); (try simp only [Act.put, nq1, nq2, nq3, nq4, nq5, nq6])
      (refine wpT_pure (v := ?_) rfl rfl ?_ ?_; rotate_left; (intro wx; go_simp; try go_bits) <;> (with_reducible rfl)); (try simp only [Act.put, nq1, nq2, nq3, nq4, nq5, nq6])
      refine wpT_nil ?_
      go_wp2_with fail
      go_ret
      exact ⟨rfl, HS.out.below⟩
end Go.Proofs.YtgahjjdbpjgemaaDoor

/-
  Layer 4: the numbers that PointGroup and PointScalars spell: l, sums.
-/
namespace Go.Proofs.YtgahjjdbpjgemaaDoor
open Go.RowKit
set_option linter.unusedSimpArgs false
def l0L : List UInt8 := [237, 211, 245, 92, 26, 99, 18, 88, 214, 156, 247, 162, 222, 249, 222, 20]
theorem l0_len : (bvs l0L).length = 16 := rfl
theorem l0_arr : (bvs l0L).toArray = #[.int .u8 237, .int .u8 211, .int .u8 245, .int .u8 92, .int .u8 26, .int .u8 99, .int .u8 18, .int .u8 88, .int .u8 214, .int .u8 156, .int .u8 247, .int .u8 162, .int .u8 222, .int .u8 249, .int .u8 222, .int .u8 20] := by unfold l0L; rfl
theorem l0_set : (l0L ++ List.replicate 16 0).set 31 (UInt8.ofNat 16) = lL := by decide +kernel
theorem lL_len : lL.length = 32 := rfl
/-- Three bytes. -/
def s3L (s : Nat) : List UInt8 := [UInt8.ofNat (s % 256), UInt8.ofNat (s / 256 % 256), UInt8.ofNat (s / 65536)]
theorem s3_len (s : Nat) : (s3L s).length = 3 := rfl
theorem s3_val (s : Nat) (h : s < 16777216) : mulV (s3L s) = s := by
  show (UInt8.ofNat (s % 256)).toNat + 256 * ((UInt8.ofNat (s / 256 % 256)).toNat + 256 * ((UInt8.ofNat (s / 65536)).toNat + 256 * 0)) = _
  rw [UInt8.toNat_ofNat', UInt8.toNat_ofNat', UInt8.toNat_ofNat']
  omega
theorem s3_bvs (s : Nat) (h : s < 16777216) : bvs (s3L s) = [.int .u8 ((s % 256 : Nat) : Int), .int .u8 ((s / 256 % 256 : Nat) : Int), .int .u8 ((s / 65536 : Nat) : Int)] := by
  show [Value.int .u8 ((UInt8.ofNat (s % 256)).toNat : Int), Value.int .u8 ((UInt8.ofNat (s / 256 % 256)).toNat : Int), Value.int .u8 ((UInt8.ofNat (s / 65536)).toNat : Int)] = _
  rw [UInt8.toNat_ofNat', UInt8.toNat_ofNat', UInt8.toNat_ofNat', Nat.mod_eq_of_lt (show s % 256 < 2 ^ 8 by omega), Nat.mod_eq_of_lt (show s / 256 % 256 < 2 ^ 8 by omega), Nat.mod_eq_of_lt (show s / 65536 < 2 ^ 8 by omega)]
end Go.Proofs.YtgahjjdbpjgemaaDoor

/-
  From the walk of a law to its row: one lemma for whatever law answers true and writes nothing that was there; how arguments of some types are read.
  No program is named here.
-/
namespace Go.Proofs.YtgahjjdbpjgemaaDoor
open Go.ChangeShapes Go.WideShapes Go.ChangeAt Go.RowKit Go.Deep
open Go.ChangeMaps (open_string shut_string)

section
variable {H : Type} {enc : TypeId × Value → H} {P : Program}

theorem trodAll_below (hl : laidOutB P = true) {W W' : World} (hb : Below W.heap.size W W') : ∀ (ts : List TypeId) (vs : List Value) (ds : List (DataW H)) (ps : List MemPlace),
    (ts.all fun t => P.readableRec t && decide (t < P.types.size)) = true → DataW.TrodAll enc P W 0 (fun _ => true) true ts vs ds ps → DataW.TrodAll enc P W' 0 (fun b => decide (b < W.heap.size)) true ts vs ds ps
  | [], vs, ds, ps, _, h => by
    obtain ⟨rfl, rfl, rfl⟩ := trodAll_nil h
    exact rfl
  | t :: ts, vs, ds, ps, hts, h => by
    obtain ⟨v, vs', d, ds', p, q, rfl, rfl, rfl, hd, hr⟩ := trodAll_cons h
    simp only [List.all_cons, Bool.and_eq_true, decide_eq_true_eq] at hts
    obtain ⟨⟨k1, k2⟩, k3⟩ := hts
    have lt : ∀ x ∈ p, x.block < W.heap.size := by
      obtain ⟨m, hm⟩ := hd
      exact DataW.trod_lt m _ _ _ hm
    exact ⟨p, q, Below.trod hl k1 k2 hd hb lt, trodAll_below hl hb ts vs' ds' q (by simpa using k3) hr, rfl⟩
theorem trodAll_length : ∀ (ts : List TypeId) {w : World} {base : Nat} {spare : Nat → Bool} {held : Bool} (vs : List Value) (ds : List (DataW H)) (ps : List MemPlace), DataW.TrodAll enc P w base spare held ts vs ds ps → ds.length = ts.length
  | [], _, _, _, _, vs, ds, ps, h => by
    obtain ⟨rfl, rfl, rfl⟩ := trodAll_nil h
    rfl
  | t :: ts, _, _, _, _, vs, ds, ps, h => by
    obtain ⟨v, vs', d, ds', p, q, rfl, rfl, rfl, hd, hr⟩ := trodAll_cons h
    rw [List.length_cons, List.length_cons, trodAll_length ts vs' ds' q hr]

/-- What a walk is told of its arguments. -/
structure Told (P : Program) (enc : TypeId × Value → H) (W : World) (ts : List TypeId) (args : Array Value) (ds : List (DataW H)) (p : List MemPlace) : Prop where
  trod : DataW.TrodAll enc P W 0 (fun _ => true) true ts args.toList ds p
  ok : ∃ base, ∀ (j : Nat) (t : TypeId) (v : Value), ts.toArray[j]? = some t → args[j]? = some v → Value.okWide P W .any base t v
  size : (DataW.weightsEach P ts ds).all (· ≤ reachBytes) = true
end

/-- The step from the walk to the row. -/
theorem lift_law {C : Checked} (own : ownKnob C.prog.godebug = none) {os : Os} (started : os.Started) {f : FuncId} {fn : Func} (noInit : C.prog.inits.idxOf? f = none) (hfn : C.prog.funcs[f]? = some fn)
    {s : ChangeSpec} (hvars : s.vars = []) (hbare : s.plain.varTypes C.prog = []) {tb : TypeId} (hres : fn.resultTypes = #[tb]) (hbool : C.prog.underlying tb = some .bool) (hl : laidOutB C.prog = true)
    (hts : (fn.params.toList.all fun t => C.prog.readableRec t && decide (t < C.prog.types.size)) = true) {conds : List PathCond}
    {H : Type} {enc : TypeId × Value → H} (hspec : ∀ (ds : List (DataW H)), ds.length = fn.params.toList.length → (s.fn H ds).results = [.lit (.bool true)] ∧ (s.fn H ds).args = ds ∧ (s.fn H ds).vars = [])
    (witness : ∃ (w : World) (tape : Tape) (i : Input), w.os = os ∧ (w.forCall tape i).Shaped C.prog ∧ i.vars = [] ∧ Input.okWide C.prog (w.forCall tape i) .any w.heap.size f i ∧
      s.pre6 enc C.prog fn conds false (w.forCall tape i).memory i.args ∧ Assume.holds {} C.prog (lone (Frame.enter C.prog f i.args .normal) [] (w.forCall tape i)))
    (walk : ∀ (W : World) (args : Array Value) (ds : List (DataW H)) (p : List MemPlace), Told C.prog enc W fn.params.toList args ds p →
      Calls C.prog f args W fun e W' => e = .returned (.bool true) ∧ Below W.heap.size W W') :
    ReturnsInHanded {} C os f .any (s.pre6 enc C.prog fn conds false) (s.post enc C.prog fn false true false false) := by
  refine returnsInHanded_of_change_sized (C := C) own started noInit hfn witness ?_
  intro W base args ds gs before hval hW _ hsz _
  have hW' := hW
  obtain ⟨p, q, hA, hV, rfl, hfz, hnd⟩ := hW
  rw [hvars] at hV
  obtain ⟨rfl, rfl⟩ := trodVars_none hV
  have hlen := trodAll_length fn.params.toList args.toList ds p hA
  obtain ⟨s1, s2, s3⟩ := hspec ds hlen
  refine (walk W args ds p ⟨hA, ⟨base, fun j t v ht hv => hval j t v (by simpa using ht) hv⟩, by rw [hbare] at hsz; simpa using hsz⟩).mono fun e W' ⟨he, bel⟩ => ?_
  subst he
  refine ⟨_, rfl, ds, [], _, [], p, [], hW', ?_, ?_, ?_, bel.frame _, fun h => by cases h⟩
  · rw [List.append_nil, s1, hres]
    exact trodAll_mk1 (shut_bool hbool _)
  · rw [List.append_nil, s2]
    exact trodAll_below hl bel _ _ _ _ hts hA
  · rw [List.append_nil, s3, hvars]
    exact rfl

section
variable {H : Type} {enc : TypeId × Value → H} {P : Program} {W : World}

/-- A slice of bytes that came in. -/
theorem open_bytes {t e : TypeId} {fuel : Nat} {a : Option Addr} {len cap : Nat} {x : DataW H × List MemPlace} (ht : P.underlying t = some (.slice e)) (he : P.underlying e = some (.int .u8)) (hC : P.cellsOf e = 1) (hB : P.bytesOf e = 1)
    (h : DataW.trod enc P W 0 (fun _ => true) true fuel t [.slice a len cap] = some x) :
    ∃ l : List UInt8, l.length = len ∧ Rd W (.slice a len cap) 1 len (bvs l) ∧ ((∀ n ∈ x.1.weights P t, n ≤ reachBytes) → len ≤ 140737488351232) := by
  rcases open_ints ht he hC h with ⟨hcs, hx⟩ | ⟨ad, len', cap', zs, hcs, _, hl, hm, hz, hx, hcell, hwz⟩
  · simp only [List.cons.injEq, and_true, Value.slice.injEq] at hcs
    obtain ⟨rfl, rfl, rfl⟩ := hcs
    exact ⟨[], rfl, rd_nil W 1, fun _ => by omega⟩
  · simp only [List.cons.injEq, and_true, Value.slice.injEq] at hcs
    obtain ⟨rfl, rfl, rfl⟩ := hcs
    simp only [if_true] at hz
    refine ⟨(zs.take len).map fun z => UInt8.ofNat z.toNat, by simp; omega, ⟨some ad, cap, rfl, by rw [length_bvs]; simp; omega, hl, hm, (fun hn => by cases hn), fun b o sp hA => ?_⟩, fun hw => ?_⟩
    case refine_2 =>
      have := hw ((len + (cap - len)) * 1) (by rw [hx]; simp [DataW.weights, ht, lits, hB]; omega)
      simp only [reachBytes] at this
      omega
    injection hA with hA
    subst hA
    have hsp : ∀ j, j < zs.length → sp = none := fun j hj => by
      have h0 := hcell 0 (by omega)
      simpa [Addr.add] using World.cell?_spot h0
    refine ⟨fun hn => hsp 0 (by omega), fun j u hu => ?_⟩
    have hj : j < len := by
      have := (List.getElem?_eq_some_iff.1 hu).1
      rw [length_bvs] at this
      simp at this
      omega
    obtain rfl := hsp 0 (by omega)
    have hc := hcell j (by omega)
    rw [Addr.add_lit] at hc
    rw [hc, ← hu]
    have hjz : j < zs.length := by omega
    simp only [bvs, List.getElem?_map, List.getElem?_take, if_pos hj, List.getElem?_eq_getElem hjz, List.getD_eq_getElem?_getD, Option.map_some, Option.getD_some, bv, UInt8.toNat_ofNat']
    have hwf := hwz _ (List.getElem_mem hjz)
    simp [Lit.wf, IntKind.min, IntKind.max, IntKind.signed, IntKind.bits] at hwf
    congr 2
    omega

theorem weightsAll_mem {e : TypeId} : ∀ {ds : List (DataW H)} {d : DataW H} {n : Nat}, d ∈ ds → n ∈ d.weights P e → n ∈ DataW.weightsAll P e ds
  | _ :: _, _, _, .head _, hn => by simp only [DataW.weightsAll, List.mem_append]; exact .inl hn
  | _ :: _, _, _, .tail _ hd, hn => by simp only [DataW.weightsAll, List.mem_append]; exact .inr (weightsAll_mem hd hn)

theorem flat_at {α β : Type} (f : α → List β) (m : Nat) (hm : ∀ a, (f a).length = m) : ∀ (l : List α) (k j : Nat) (a : α), l[k]? = some a → j < m → (l.flatMap f)[k * m + j]? = (f a)[j]?
  | [], k, j, a, h, _ => by simp at h
  | x :: l, 0, j, a, h, hj => by
    simp only [List.getElem?_cons_zero, Option.some.injEq] at h
    subst h
    rw [List.flatMap_cons, Nat.zero_mul, Nat.zero_add, List.getElem?_append_left (by rw [hm]; exact hj)]
  | x :: l, k + 1, j, a, h, hj => by
    rw [List.flatMap_cons, List.getElem?_append_right (by rw [hm]; rw [Nat.succ_mul]; omega), hm, show (k + 1) * m + j - m = k * m + j from by rw [Nat.succ_mul]; omega]
    exact flat_at f m hm l k j a (by simpa using h) hj
theorem flat_len {α β : Type} (f : α → List β) (m : Nat) (hm : ∀ a, (f a).length = m) (l : List α) : (l.flatMap f).length = l.length * m := by
  induction l with
  | nil => simp
  | cons x l ih => rw [List.flatMap_cons, List.length_append, hm, ih, List.length_cons, Nat.succ_mul]; omega

/-- A slice that came in whose elements are read as the cells 'f p'. -/
theorem open_rows {α : Type} (f : α → List Value) {size bytes : Nat} (hf : ∀ p, (f p).length = size) (hpos : 0 < size) (OK : α → Prop) {t e : TypeId} {fuel : Nat} {a : Option Addr} {len cap : Nat} {x : DataW H × List MemPlace}
    (ht : P.underlying t = some (.slice e)) (hC : P.cellsOf e = size) (hB : P.bytesOf e = bytes)
    (hread : ∀ n cs y, DataW.trod enc P W 0 (fun _ => true) true n e cs = some y → ∃ p, cs = f p ∧ ((∀ n ∈ y.1.weights P e, n ≤ reachBytes) → OK p))
    (h : DataW.trod enc P W 0 (fun _ => true) true fuel t [.slice a len cap] = some x) :
    ∃ ps : List α, ps.length = len ∧ Rd W (.slice a len cap) size len (ps.flatMap f) ∧ ((∀ n ∈ x.1.weights P t, n ≤ reachBytes) → (∀ p ∈ ps, OK p) ∧ len * bytes ≤ 140737488351232) := by
  rcases open_slice ht h with ⟨hcs, hx⟩ | ⟨ad, len', cap', m, n, D, Pl, hcs, _, hl, hm, hmm, hx, hi⟩
  · simp only [List.cons.injEq, and_true, Value.slice.injEq] at hcs
    obtain ⟨rfl, rfl, rfl⟩ := hcs
    exact ⟨[], rfl, rd_nil W size, fun _ => ⟨(fun p hp => by cases hp), by omega⟩⟩
  · simp only [List.cons.injEq, and_true, Value.slice.injEq] at hcs
    obtain ⟨rfl, rfl, rfl⟩ := hcs
    simp only [if_true] at hmm
    obtain rfl : cap = m := hmm.symm
    have key : ∀ k, k ≤ len → ∃ ps : List α, ps.length = k ∧ ∀ i p, ps[i]? = some p → (∀ j u, (f p)[j]? = some u → W.cell? ((ad.add (i * size)).add j) = some u) ∧ ((∀ n ∈ (D i).weights P e, n ≤ reachBytes) → OK p) := by
      intro k
      induction k with
      | zero => exact fun _ => ⟨[], rfl, fun i p hp => by simp at hp⟩
      | succ k ih =>
        intro hk
        obtain ⟨ps, hps, hall⟩ := ih (by omega)
        obtain ⟨cs', h1, h2⟩ := hi k (by omega)
        obtain ⟨p, rfl, hok⟩ := hread n cs' _ h2
        rw [hC] at h1
        obtain ⟨_, _, hat⟩ := World.cells?_some h1
        refine ⟨ps ++ [p], by simp [hps], fun i q hq => ?_⟩
        rw [List.getElem?_append] at hq
        split at hq
        · exact hall i q hq
        · have hik : i = k := by
            have := (List.getElem?_eq_some_iff.1 hq).1
            simp at this
            omega
          subst hik
          have hpq : p = q := by
            rw [hps, Nat.sub_self] at hq
            simpa using hq
          subst hpq
          refine ⟨fun j u hu => ?_, hok⟩
          have hj : j < size := by rw [← hf p]; exact (List.getElem?_eq_some_iff.1 hu).1
          rw [hat j hj, hu]
    obtain ⟨ps, hps, hall⟩ := key len (Nat.le_refl _)
    have hadd : ∀ i j : Nat, (ad.add i).add j = ad.add (i + j) := by
      intro i j
      unfold Addr.add
      by_cases hi : i = 0 <;> by_cases hj : j = 0 <;> simp [hi, hj, Nat.add_assoc]
    have hcell : ∀ q u, (ps.flatMap f)[q]? = some u → W.cell? (ad.add q) = some u := by
      intro q u hu
      have hq : q < len * size := by
        have := (List.getElem?_eq_some_iff.1 hu).1
        rwa [flat_len f size hf, hps] at this
      have hd : q / size < ps.length := by rw [hps]; exact Nat.div_lt_of_lt_mul (by rw [Nat.mul_comm]; exact hq)
      have hr : q % size < size := Nat.mod_lt _ hpos
      have hqe : q / size * size + q % size = q := by rw [Nat.mul_comm]; exact Nat.div_add_mod q size
      have h3 := hall (q / size) ps[q / size] (List.getElem?_eq_getElem hd)
      have h4 := flat_at f size hf ps (q / size) (q % size) ps[q / size] (List.getElem?_eq_getElem hd) hr
      rw [hqe, hu] at h4
      have h5 := h3.1 (q % size) u h4.symm
      rwa [hadd, hqe] at h5
    refine ⟨ps, hps, ⟨some ad, cap, rfl, by rw [flat_len f size hf, hps], hl, hm, (fun hn => by cases hn), fun b o sp hA => ?_⟩, fun hw => ⟨fun p hp => ?_, ?_⟩⟩
    · injection hA with hA
      subst hA
      have hsp : ∀ q u, (ps.flatMap f)[q]? = some u → sp = none := fun q u hu => by
        have hlt := (List.getElem?_eq_some_iff.1 hu).1
        have h0 := hcell 0 _ (List.getElem?_eq_getElem (by omega))
        simpa [Addr.add] using World.cell?_spot h0
      refine ⟨fun hn => hsp 0 _ (List.getElem?_eq_getElem (by rw [flat_len f size hf, hps]; omega)), fun j u hu => ?_⟩
      have hc := hcell j u hu
      obtain rfl := hsp j u hu
      rwa [Addr.add_lit] at hc
    · obtain ⟨i, hlt, rfl⟩ := List.getElem_of_mem hp
      refine (hall i _ (List.getElem?_eq_getElem hlt)).2 fun n hn => hw n ?_
      rw [hx]
      simp only [DataW.weights, ht, List.mem_cons, List.mem_append]
      exact .inr (.inl (weightsAll_mem (List.mem_map.2 ⟨i, by simp; omega, rfl⟩) hn))
    · have := hw ((len + (cap - len)) * bytes) (by rw [hx]; simp [DataW.weights, ht, hB])
      simp only [reachBytes] at this
      exact Nat.le_trans (Nat.mul_le_mul_right bytes (Nat.le_add_right len (cap - len))) this
end
end Go.Proofs.YtgahjjdbpjgemaaDoor

/-
  How arguments of some types are opened: numbers, rows of numbers. No program is named here.
-/
namespace Go.Proofs.YtgahjjdbpjgemaaDoor
open Go.ChangeShapes Go.WideShapes Go.ChangeAt Go.RowKit Go.Deep

theorem w64_of {n : Int} (h : (Lit.int .u64 n).wf = true) : ∃ m : Nat, n = m ∧ W64 m := by
  simp [Lit.wf, IntKind.min, IntKind.max, IntKind.signed, IntKind.bits] at h
  exact ⟨n.toNat, by omega, by unfold W64; omega⟩
theorem i64_of {n : Int} (h : (Lit.int .i64 n).wf = true) : I64 n := by
  simp [Lit.wf, IntKind.min, IntKind.max, IntKind.signed, IntKind.bits] at h
  unfold I64
  omega

theorem u32_of {n : Int} (h : (Lit.int .u32 n).wf = true) : ∃ m : Nat, n = m ∧ m < 4294967296 := by
  simp [Lit.wf, IntKind.min, IntKind.max, IntKind.signed, IntKind.bits] at h
  exact ⟨n.toNat, by omega, by omega⟩
theorem u8_of {n : Int} (h : (Lit.int .u8 n).wf = true) : ∃ m : Nat, n = m ∧ m < 256 := by
  simp [Lit.wf, IntKind.min, IntKind.max, IntKind.signed, IntKind.bits] at h
  exact ⟨n.toNat, by omega, by omega⟩
section
variable {H : Type} {enc : TypeId × Value → H} {P : Program} {w W : World} {base : Nat} {spare : Nat → Bool} {held : Bool}
theorem trodAll_five {t0 t1 t2 t3 t4 : TypeId} {args : Array Value} {ds : List (DataW H)} {ps : List MemPlace} (h : DataW.TrodAll enc P w base spare held [t0, t1, t2, t3, t4] args.toList ds ps) :
    ∃ v0 v1 v2 v3 v4 d0 d1 d2 d3 d4 p0 p1 p2 p3 p4, args = #[v0, v1, v2, v3, v4] ∧ ds = [d0, d1, d2, d3, d4] ∧ ps = p0 ++ p1 ++ p2 ++ p3 ++ p4 ∧ DataW.Trod enc P w base spare held t0 v0 d0 p0 ∧ DataW.Trod enc P w base spare held t1 v1 d1 p1 ∧
      DataW.Trod enc P w base spare held t2 v2 d2 p2 ∧ DataW.Trod enc P w base spare held t3 v3 d3 p3 ∧ DataW.Trod enc P w base spare held t4 v4 d4 p4 := by
  obtain ⟨v0, vs, d0, ds', p0, q, hargs, rfl, rfl, h0, hr⟩ := trodAll_cons h
  obtain ⟨v1, vs1, d1, ds1, p1, q1, rfl, rfl, rfl, h1, hr1⟩ := trodAll_cons hr
  obtain ⟨v2, vs2, d2, ds2, p2, q2, rfl, rfl, rfl, h2, hr2⟩ := trodAll_cons hr1
  obtain ⟨v3, vs3, d3, ds3, p3, q3, rfl, rfl, rfl, h3, hr3⟩ := trodAll_cons hr2
  obtain ⟨v4, vs4, d4, ds4, p4, q4, rfl, rfl, rfl, h4, hr4⟩ := trodAll_cons hr3
  obtain ⟨rfl, rfl, rfl⟩ := trodAll_nil hr4
  exact ⟨v0, v1, v2, v3, v4, d0, d1, d2, d3, d4, p0, p1, p2, p3, p4, by cases args; simp_all, rfl, by simp, h0, h1, h2, h3, h4⟩
/-- A slice of numbers that came in. -/
theorem open_nums {k : IntKind} {t e : TypeId} {fuel : Nat} {a : Option Addr} {len cap : Nat} {x : DataW H × List MemPlace} (ht : P.underlying t = some (.slice e)) (he : P.underlying e = some (.int k)) (hC : P.cellsOf e = 1)
    (h : DataW.trod enc P W 0 (fun _ => true) true fuel t [.slice a len cap] = some x) :
    ∃ l : List Int, l.length = len ∧ Rd W (.slice a len cap) 1 len (l.map (Value.int k)) ∧ ∀ z ∈ l, (Lit.int k z).wf = true := by
  rcases open_ints ht he hC h with ⟨hcs, hx⟩ | ⟨ad, len', cap', zs, hcs, _, hl, hm, hz, hx, hcell, hwz⟩
  · simp only [List.cons.injEq, and_true, Value.slice.injEq] at hcs
    obtain ⟨rfl, rfl, rfl⟩ := hcs
    exact ⟨[], rfl, rd_nil W 1, fun _ h => by cases h⟩
  · simp only [List.cons.injEq, and_true, Value.slice.injEq] at hcs
    obtain ⟨rfl, rfl, rfl⟩ := hcs
    simp only [if_true] at hz
    refine ⟨zs.take len, by simp; omega, ⟨some ad, cap, rfl, by simp; omega, hl, hm, (fun hn => by cases hn), fun b o sp hA => ?_⟩, fun z hz' => hwz z (List.mem_of_mem_take hz')⟩
    injection hA with hA
    subst hA
    have hsp : ∀ j, j < zs.length → sp = none := fun j hj => by
      have h0 := hcell 0 (by omega)
      simpa [Addr.add] using World.cell?_spot h0
    refine ⟨fun hn => hsp 0 (by omega), fun j u hu => ?_⟩
    have hj : j < len := by
      have := (List.getElem?_eq_some_iff.1 hu).1
      simp at this
      omega
    obtain rfl := hsp 0 (by omega)
    have hc := hcell j (by omega)
    rw [Addr.add_lit] at hc
    rw [hc, ← hu]
    have hjz : j < zs.length := by omega
    simp [List.getElem?_take, hj, List.getElem?_eq_getElem hjz, List.getD_eq_getElem?_getD]
end
end Go.Proofs.YtgahjjdbpjgemaaDoor

/-
  How the arguments of this seat's laws are opened (laws that take bytes and numbers).
-/
namespace Go.Proofs.YtgahjjdbpjgemaaDoor
open Go.ChangeShapes Go.WideShapes Go.ChangeAt Go.RowKit

theorem own : ownKnob Tryd.prog.godebug = none := by kernel_rfl
theorem laidOut : laidOutB Tryd.prog = true := by kernel_rfl
theorem cellsU8 : Tryd.prog.cellsOf 5 = 1 := by kernel_rfl
theorem bytesU8 : Tryd.prog.bytesOf 5 = 1 := by kernel_rfl
end Go.Proofs.YtgahjjdbpjgemaaDoor

/-
  From a law's walk to its row where the row lists variables; the table of powers out of the condition.
-/
namespace Go.Proofs.YtgahjjdbpjgemaaDoor
open Go.ChangeShapes Go.WideShapes Go.ChangeAt Go.RowKit Go.Deep

theorem lift_laid {C : Checked} (own : ownKnob C.prog.godebug = none) {os : Os} (started : os.Started) {f : FuncId} {fn : Func} (noInit : C.prog.inits.idxOf? f = none) (hfn : C.prog.funcs[f]? = some fn)
    {s : ChangeSpec} (hvars : s.vars = []) (hbare : s.plain.varTypes C.prog = []) {tb : TypeId} (hres : fn.resultTypes = #[tb]) (hbool : C.prog.underlying tb = some .bool) (hl : laidOutB C.prog = true)
    (hts : (fn.params.toList.all fun t => C.prog.readableRec t && decide (t < C.prog.types.size)) = true) {l : List (String × DataW Unit)}
    {H : Type} {enc : TypeId × Value → H} (hspec : ∀ (ds : List (DataW H)), ds.length = fn.params.toList.length → (s.fn H ds).results = [.lit (.bool true)] ∧ (s.fn H ds).args = ds ∧ (s.fn H ds).vars = [])
    (witness : ∃ (w : World) (tape : Tape) (i : Input), w.os = os ∧ (w.forCall tape i).Shaped C.prog ∧ i.vars = [] ∧ Input.okWide C.prog (w.forCall tape i) .any w.heap.size f i ∧
      ((s.pre enc C.prog fn [] false (w.forCall tape i).memory i.args ∧ laidMetH C.prog l (w.forCall tape i).memory) ∧ sizedMet enc C.prog fn (OpenSpec.ofChange s) false (w.forCall tape i).memory i.args) ∧ Assume.holds {} C.prog (lone (Frame.enter C.prog f i.args .normal) [] (w.forCall tape i)))
    (walk : ∀ (W : World) (args : Array Value) (ds : List (DataW H)) (p : List MemPlace), Told C.prog enc W fn.params.toList args ds p → laidMetH C.prog l W →
      Calls C.prog f args W fun e W' => e = .returned (.bool true) ∧ Below W.heap.size W W') :
    ReturnsInHanded {} C os f .any (fun w args => (s.pre enc C.prog fn [] false w args ∧ laidMetH C.prog l w) ∧ sizedMet enc C.prog fn (OpenSpec.ofChange s) false w args) (s.post enc C.prog fn false true false false) := by
  refine returnsInHanded_of_change_and (C := C) (X := fun w _ => laidMetH C.prog l w) (fun _ _ _ hh h => h.of_heap hh) own started noInit hfn witness ?_
  intro W base args ds gs before hval hW _ hsz hL _
  have hW' := hW
  obtain ⟨p, q, hA, hV, rfl, hfz, hnd⟩ := hW
  rw [hvars] at hV
  obtain ⟨rfl, rfl⟩ := trodVars_none hV
  have hlen := trodAll_length fn.params.toList args.toList ds p hA
  obtain ⟨s1, s2, s3⟩ := hspec ds hlen
  refine (walk W args ds p ⟨hA, ⟨base, fun j t v ht hv => hval j t v (by simpa using ht) hv⟩, by rw [hbare] at hsz; simpa using hsz⟩ hL).mono fun e W' ⟨he, bel⟩ => ?_
  subst he
  refine ⟨_, rfl, ds, [], _, [], p, [], hW', ?_, ?_, ?_, bel.frame _, fun h => by cases h⟩
  · rw [List.append_nil, s1, hres]
    exact trodAll_mk1 (shut_bool hbool _)
  · rw [List.append_nil, s2]
    exact trodAll_below hl bel _ _ _ _ hts hA
  · rw [List.append_nil, s3, hvars]
    exact rfl

def LL : List (String × DataW Unit) := [("math/bits.deBruijn32tab", Rows.laid_math_bits_deBruijn32tab), ("math/bits.deBruijn64tab", Rows.laid_math_bits_deBruijn64tab), ("internal/strconv.uint64pow10", Rows.laid_internal_strconv_uint64pow10), ("strconv.ErrRange", Rows.laid_strconv_ErrRange), ("strconv.ErrSyntax", Rows.laid_strconv_ErrSyntax)]
theorem door_met (os : Os) (args : Array Value) : laidMetH Tryd.prog LL ((World.doorLaid Tryd.prog 400 os).forCall (fun _ _ => 0) ⟨#[], args, []⟩).memory := by
  rw [MakeChecks.laidMetH_plain _ _ _ (by kernel_rfl)]
  exact laidMet_of_run' 8 (by kernel_rfl) (by kernel_rfl)
end Go.Proofs.YtgahjjdbpjgemaaDoor
