/-
  Joined of texts of mine, in build order: Bo, Bw, Bx, Bv, By, Ic. Each says what it proves at its own head.
-/
import Derived.Test.YtgahjjdbpjgemaaDoorPf
set_option linter.unusedSimpArgs false
set_option linter.unusedVariables false

/-
  Layer 4: the code's From.
-/
namespace Go.Proofs.YtgahjjdbpjgemaaDoor
open Go.RowKit
set_option linter.unusedSimpArgs false

theorem tyB8 : RowTy Tryd.prog 22 5 1 1 := tyB
set_option maxRecDepth 100000 in
set_option maxHeartbeats 800000 in
theorem clone32 {A : Option Addr} {c : Nat} {l : List UInt8} (w : World) (hr : Rd w (.slice A 32 c) 1 32 (bvs l)) : Calls Tryd.prog 49 #[.slice A 32 c] w fun e w' => ∃ B d, e = .returned (.slice B 32 d) ∧ Below w.heap.size w w' ∧ w'.ownsRow w.heap.size 5 1 (.slice B 32 d) 32 (bvs l) := by
  cases A with
  | none =>
    obtain ⟨A', c', hv, _, h1, h2, h3, _⟩ := hr
    injection hv with hv1 hv2 hv3
    subst hv1
    have := h3 rfl
    omega
  | some a =>
    have hS1 : St w NoB (w.alloc (.cells #[] 5)) [.row (.slice (some ⟨w.heap.size, 0, none⟩) 0 0) 5 1 0 []] := (St.init w NoB).row ((Below.refl w.heap.size w).alloc (Nat.le_refl _) _) ⟨rfl, .inr ⟨w.heap.size, 0, #[], rfl, Nat.le_refl _, by show (w.heap.push _)[w.heap.size]? = _; simp, Nat.le_refl _, by decide, rfl, rfl⟩⟩
    have HS1 := hide hS1
    have HR1 := hide (hr.below ((Below.refl w.heap.size w).alloc (Nat.le_refl _) (.cells #[] 5)))
    clear hS1 hr
    have hnil : ∀ W, (binOp .eql 22 (.slice (some a) 32 c) (.slice none 0 0)).run Tryd.prog W = .ok (.bool false) W := fun W => by kernel_rfl
    go_enter Tryd.func49, Tryd.ntmps49
    go_wp2_with (at_builtin; refine wl_append rfl rfl tyB HS1.out 0 rfl rfl rfl HR1.out (one_bvs l) (by omega) (by decide) ?_; intro A' c' w' hS2; rw [Nat.zero_add, List.nil_append] at hS2; have HS2 := hide hS2; clear hS2)
    go_ret
    exact ⟨_, _, rfl, HS2.out.below, HS2.out.ownsRow 0 rfl⟩
theorem u8_and127 (n : Nat) (h : n < 256) : bits .and .u8 (n : Int) 127 = ((n % 128 : Nat) : Int) := by
  have : ∀ m : Fin 256, bits .and .u8 (m.val : Int) 127 = ((m.val % 128 : Nat) : Int) := by decide +kernel
  exact this ⟨n, h⟩
theorem zP_quad : zP = quad zE zE zE zE := rfl
theorem zP_pt : PtV zP .zero := ⟨⟨0, 0, 0, 0⟩, zE, zE, zE, zE, zP_quad, ea_zE, ea_zE, ea_zE, ea_zE, .inr ⟨rfl, rfl⟩⟩
def ResF (w : World) (o : Option Ed) (e : Ending) (w' : World) : Prop := ∃ v, PtV v (o.getD .zero) ∧ e = .returned (.tuple #[.agg v, .bool o.isSome]) ∧ Below w.heap.size w w'
set_option maxRecDepth 100000 in
set_option maxHeartbeats 1600000 in
theorem from_no {A : Option Addr} {n c : Nat} {l : List UInt8} (w : World) (hl : l.length = n) (hn : n ≠ 32) : Calls Tryd.prog 24 #[.slice A n c] w (ResF w (fromL l)) := by
  have hF : fromL l = none := by unfold fromL; rw [if_neg (by omega)]
  have q0 : ((n : Int) != 32) = true := by simp; omega
  have HS := hide (St.init w NoB)
  have hzpt := show PtV (#[.int .u64 0, .int .u64 0, .int .u64 0, .int .u64 0, .int .u64 0, .int .u64 0, .int .u64 0, .int .u64 0, .int .u64 0, .int .u64 0, .int .u64 0, .int .u64 0, .int .u64 0, .int .u64 0, .int .u64 0, .int .u64 0, .int .u64 0, .int .u64 0, .int .u64 0, .int .u64 0] : Array Value) .zero from zP_pt
  rw [hF]
  clear hF hl hn
  go_enter Tryd.func24, Tryd.ntmps24
  go_wp2_with (first | (refine wl_loadP rfl rfl rfl HS.out (by (repeat first | exact .head _ | apply List.Mem.tail)) (by first | exact rowE | exact rowP | exact rowN | exact rowQ) (by (first | exact .q0 (EA.arr ‹_›) | exact .q1 (EA.arr ‹_›) (EA.arr ‹_›) | exact .q2 (EA.arr ‹_›) (EA.arr ‹_›) (EA.arr ‹_›) | exact .q3 (EA.arr ‹_›) (EA.arr ‹_›) (EA.arr ‹_›) (EA.arr ‹_›) | exact .q0 (NA.arr ‹_›) | exact .q1 (NA.arr ‹_›) (NA.arr ‹_›) | exact .q2 (NA.arr ‹_›) (NA.arr ‹_›) (NA.arr ‹_›) | exact .q3 (NA.arr ‹_›) (NA.arr ‹_›) (NA.arr ‹_›) (NA.arr ‹_›) | exact .all (by (first | exact EA.arr ‹_› | exact NA.arr ‹_› | exact arr_zE | exact arr_zN | exact arr_zP | exact arr_zQ | exact PtN.arr ‹_› | exact PtV.arr ‹_› | exact QtN.arr ‹_› | exact qE ‹_› ‹_› ‹_› ‹_› | exact qN ‹_› ‹_› ‹_› ‹_›)))) ?_; (try simp only [Act.put, nq1, nq2, nq3, nq4, nq5, nq6])) | (refine wl_storeR rfl rfl rfl rfl HS.out (by first | exact rowE | exact rowP | exact rowN | exact rowQ) (by (repeat first | exact .head | apply Upd.tail)) (by (first | exact EA.arr ‹_› | exact NA.arr ‹_› | exact arr_zE | exact arr_zN | exact arr_zP | exact arr_zQ | exact PtN.arr ‹_› | exact PtV.arr ‹_› | exact QtN.arr ‹_› | exact qE ‹_› ‹_› ‹_› ‹_› | exact qN ‹_› ‹_› ‹_› ‹_›)) (by (first | exact EA.arr ‹_› | exact NA.arr ‹_› | exact arr_zE | exact arr_zN | exact arr_zP | exact arr_zQ | exact PtN.arr ‹_› | exact PtV.arr ‹_› | exact QtN.arr ‹_› | exact qE ‹_› ‹_› ‹_› ‹_› | exact qN ‹_› ‹_› ‹_› ‹_›)) ?_; intro wz hS9; have HS := hide hS9; clear hS9; (try simp only [Act.put, nq1, nq2, nq3, nq4, nq5, nq6])) | (refine wl_allocR rfl rfl HS.out (by first | exact newE | exact newP | exact newN | exact newQ) ?_; intro gz wz hS9; have HS := hide hS9; clear hS9; (try simp only [Act.put, nq1, nq2, nq3, nq4, nq5, nq6])) | (refine wl_boxR rfl rfl rfl HS.out ?_; intro gz wz hS9; have HS := hide hS9; clear hS9; (try simp only [Act.put, nq1, nq2, nq3, nq4, nq5, nq6])))
  refine bodyPost_ret (results_cell_tmp_row rfl _ _ _ _ _ _ _ rfl (HS.out.heapM (by (repeat first | exact .head _ | apply List.Mem.tail))) Tryd.underlying29 rfl (by first | (rw [(EA.arr ‹_›).size]; kernel_rfl) | (rw [(NA.arr ‹_›).size]; kernel_rfl) | (rw [(qE ‹_› ‹_› ‹_› ‹_›).size]; kernel_rfl) | (rw [(qN ‹_› ‹_› ‹_› ‹_›).size]; kernel_rfl) | (rw [(PtN.arr ‹_›).size]; kernel_rfl) | (rw [(PtV.arr ‹_›).size]; kernel_rfl) | (rw [(QtN.arr ‹_›).size]; kernel_rfl))) rfl ?_
  exact ⟨_, hzpt, rfl, HS.out.below⟩
theorem en29_fr (args : Array Value) (w : World) : (callFunc 29 args).run Tryd.prog w = .ok (.enter 29 args) w := by kernel_rfl
theorem en36_fr (args : Array Value) (w : World) : (callFunc 36 args).run Tryd.prog w = .ok (.enter 36 args) w := by kernel_rfl
theorem en48_fr (args : Array Value) (w : World) : (callFunc 48 args).run Tryd.prog w = .ok (.enter 48 args) w := by kernel_rfl
theorem en51_fr (args : Array Value) (w : World) : (callFunc 51 args).run Tryd.prog w = .ok (.enter 51 args) w := by kernel_rfl
theorem en52_fr (args : Array Value) (w : World) : (callFunc 52 args).run Tryd.prog w = .ok (.enter 52 args) w := by kernel_rfl
theorem en53_fr (args : Array Value) (w : World) : (callFunc 53 args).run Tryd.prog w = .ok (.enter 53 args) w := by kernel_rfl
set_option maxRecDepth 100000 in
set_option maxHeartbeats 6400000 in
theorem from_32 {A : Option Addr} {c : Nat} {l : List UInt8} (w : World) (hl : l.length = 32) (hr : Rd w (.slice A 32 c) 1 32 (bvs l)) : Calls Tryd.prog 24 #[.slice A 32 c] w (ResF w (fromL l)) := by
  have HS := hide (St.init w NoB)
  have hzpt := show PtV (#[.int .u64 0, .int .u64 0, .int .u64 0, .int .u64 0, .int .u64 0, .int .u64 0, .int .u64 0, .int .u64 0, .int .u64 0, .int .u64 0, .int .u64 0, .int .u64 0, .int .u64 0, .int .u64 0, .int .u64 0, .int .u64 0, .int .u64 0, .int .u64 0, .int .u64 0, .int .u64 0] : Array Value) .zero from zP_pt
  obtain ⟨cb, hxb⟩ : ∃ cb, l[31]? = some cb := ⟨l[31], List.getElem?_eq_getElem _⟩
  obtain ⟨b, o, rfl, hcb⟩ := rd_at' hr (bvs_get hxb)
  have hbl := World.block_lt_of_cell? _ _ hcb
  have gB := bvs_get hxb
  obtain ⟨ch, hch⟩ : ∃ c : Nat, c = cb.toNat := ⟨_, rfl⟩
  have hc8 : ch < 256 := by rw [hch]; exact UInt8.toNat_lt _
  have hlow : lowL l = l.set 31 (UInt8.ofNat (ch % 128)) := by unfold lowL; rw [List.getD_eq_getElem?_getD, hxb, hch]; rfl
  have htop : topB l = decide (128 ≤ ch) := by unfold topB; rw [List.getD_eq_getElem?_getD, hxb, hch]; rfl
  rw [← hch] at hcb gB
  have hand := u8_and127 ch hc8
  have hm : ch % 128 < 256 := by omega
  obtain ⟨cm, hcm⟩ : ∃ m, m = ch % 128 := ⟨_, rfl⟩
  rw [← hcm] at hand hm hlow
  clear hcm
  have HB := hide (fun W (h : Below w.heap.size w W) => (h.cell (p := ⟨b, o + 31, none⟩) hbl).trans hcb)
  have HR := hide hr
  have GB := hide gB
  have HLOW := hide hlow
  have HTOP := hide htop
  have HL := hide hl
  have HM := hide hm
  clear hxb hch hcb hbl gB hlow htop hr hl hm
  go_enter Tryd.func24, Tryd.ntmps24
  go_upto_region 5 with (first
    | (go_at_call 49; (with_reducible refine (clone32 _ (HR.out.below HS.out.below)).mono ?_); rintro e wy ⟨B, d, rfl, hb, ho⟩; have HS := hide (HS.out.row hb ho); obtain ⟨g, c1, hvv, _, _, hcs, hfr, _⟩ := HS.out.rowOpen 0 rfl (by omega); injection hvv with hvv1 _ hvv3; subst hvv1 hvv3; have k31 := hcs 31 _ GB.out; have f31 := hfr 31; have HS9 := hide HS.out; clear ho hcs hfr)
    | (refine wl_loadP rfl rfl rfl HS.out (by (repeat first | exact .head _ | apply List.Mem.tail)) (by first | exact rowE | exact rowP | exact rowN | exact rowQ) (by (first | exact .q0 (EA.arr ‹_›) | exact .q1 (EA.arr ‹_›) (EA.arr ‹_›) | exact .q2 (EA.arr ‹_›) (EA.arr ‹_›) (EA.arr ‹_›) | exact .q3 (EA.arr ‹_›) (EA.arr ‹_›) (EA.arr ‹_›) (EA.arr ‹_›) | exact .q0 (NA.arr ‹_›) | exact .q1 (NA.arr ‹_›) (NA.arr ‹_›) | exact .q2 (NA.arr ‹_›) (NA.arr ‹_›) (NA.arr ‹_›) | exact .q3 (NA.arr ‹_›) (NA.arr ‹_›) (NA.arr ‹_›) (NA.arr ‹_›) | exact .all (by (first | exact EA.arr ‹_› | exact NA.arr ‹_› | exact arr_zE | exact arr_zN | exact arr_zP | exact arr_zQ | exact PtN.arr ‹_› | exact PtV.arr ‹_› | exact QtN.arr ‹_› | exact qE ‹_› ‹_› ‹_› ‹_› | exact qN ‹_› ‹_› ‹_› ‹_›)))) ?_; (try simp only [Act.put, nq1, nq2, nq3, nq4, nq5, nq6])) | (refine wl_storeR rfl rfl rfl rfl HS.out (by first | exact rowE | exact rowP | exact rowN | exact rowQ) (by (repeat first | exact .head | apply Upd.tail)) (by (first | exact EA.arr ‹_› | exact NA.arr ‹_› | exact arr_zE | exact arr_zN | exact arr_zP | exact arr_zQ | exact PtN.arr ‹_› | exact PtV.arr ‹_› | exact QtN.arr ‹_› | exact qE ‹_› ‹_› ‹_› ‹_› | exact qN ‹_› ‹_› ‹_› ‹_›)) (by (first | exact EA.arr ‹_› | exact NA.arr ‹_› | exact arr_zE | exact arr_zN | exact arr_zP | exact arr_zQ | exact PtN.arr ‹_› | exact PtV.arr ‹_› | exact QtN.arr ‹_› | exact qE ‹_› ‹_› ‹_› ‹_› | exact qN ‹_› ‹_› ‹_› ‹_›)) ?_; intro wz hS9; have HS := hide hS9; clear hS9; (try simp only [Act.put, nq1, nq2, nq3, nq4, nq5, nq6])) | (refine wl_allocR rfl rfl HS.out (by first | exact newE | exact newP | exact newN | exact newQ) ?_; intro gz wz hS9; have HS := hide hS9; clear hS9; (try simp only [Act.put, nq1, nq2, nq3, nq4, nq5, nq6])) | (refine wl_boxR rfl rfl rfl HS.out ?_; intro gz wz hS9; have HS := hide hS9; clear hS9; (try simp only [Act.put, nq1, nq2, nq3, nq4, nq5, nq6])))
  have h9 := HS9.out.rowSet 0 rfl 31 (.int .u8 (cm : Int)) (by omega)
  simp only [List.set_cons_zero] at h9
  rw [bvs_set _ _ _ HM.out, ← HLOW.out] at h9
  have HS := hide h9
  have hll : (lowL l).length = 32 := by rw [lowL_len]; exact HL.out
  clear h9 HS9 k31 f31
  go_upto_region 7 with (first
    | (go_at_call 50; (with_reducible refine (fromA _ hll (by decide) (HS.out.rd 0 rfl)).mono ?_); rintro e wy ⟨zy, hzy, rfl, hb⟩; have HS := hide (HS.out.call hb))
    | (go_at_call 36; (with_reducible refine (mulA _ hzy hzy).mono ?_); rintro e wy ⟨zs, hzs, rfl, hb⟩; have HS := hide (HS.out.call hb))
    | (refine wl_storeR rfl rfl rfl rfl HS.out rowE (.head) (by first | exact EA.arr ‹_› | exact arr_zE) (by first | exact EA.arr ‹_› | exact arr_zE) ?_; intro wz hS9; have HS := hide hS9; clear hS9; (try simp only [Act.put, nq1, nq2, nq3, nq4, nq5, nq6])) | (refine wl_loadP rfl rfl rfl HS.out (.head _) rowE (.all (by first | exact EA.arr ‹_› | exact arr_zE)) ?_; (try simp only [Act.put, nq1, nq2, nq3, nq4, nq5, nq6])) | (refine wl_allocR rfl rfl HS.out newE ?_; intro gz wz hS9; have HS := hide hS9; clear hS9; (try simp only [Act.put, nq1, nq2, nq3, nq4, nq5, nq6])))
  have HS := hide HS.out.drew
  refine wp_region_XE [(12, 7)] [(0, 0), (3, 0), (1, 2), (2, 2), (4, 2), (5, 2), (6, 2), (7, 2), (8, 2), (9, 1), (10, 1), (11, 1)] (.op 13 2 (.op 14 1 (.nil))) zE 27 (by kernel_rfl) (by kernel_rfl) (by kernel_rfl) (by intro p hp; simp only [List.mem_cons, List.not_mem_nil, or_false] at hp; subst hp <;> exact flOp_of rfl rfl rfl (fun ev x => run_allocR rfl newE ev x)) (fun _ _ _ _ h => h) ?_
  refine wpX_loadP rfl rfl rfl rfl HS.out (.head _) rowE (.all (by first | exact EA.arr ‹_› | exact arr_zE)) ?_; (try simp only [Act.put, nq1, nq2, nq3, nq4, nq5, nq6])
  refine wpX_loadP rfl rfl rfl rfl HS.out (.head _) rowE (.all (by first | exact EA.arr ‹_› | exact arr_zE)) ?_; (try simp only [Act.put, nq1, nq2, nq3, nq4, nq5, nq6])
  refine wpX_callF rfl rfl rfl en48_fr rfl (fun x => small1A x) ?_; rintro xw e wy ⟨z, hz, rfl, hb⟩; refine ⟨_, rfl, hb, ?_⟩; (try simp only [Act.put, nq1, nq2, nq3, nq4, nq5, nq6])
  refine wpX_callF rfl rfl rfl en52_fr rfl (fun x => subA x ‹_› ‹_›) ?_; rintro xw e wy ⟨z, hz, rfl, hb⟩; refine ⟨_, rfl, hb, ?_⟩; (try simp only [Act.put, nq1, nq2, nq3, nq4, nq5, nq6])
  refine wpX_callF rfl rfl rfl en29_fr rfl (fun x => numD x) ?_; rintro xw e wy ⟨z, hz, rfl, hb⟩; refine ⟨_, rfl, hb, ?_⟩; (try simp only [Act.put, nq1, nq2, nq3, nq4, nq5, nq6])
  refine wpX_callF rfl rfl rfl en36_fr rfl (fun x => mulA x ‹_› ‹_›) ?_; rintro xw e wy ⟨z, hz, rfl, hb⟩; refine ⟨_, rfl, hb, ?_⟩; (try simp only [Act.put, nq1, nq2, nq3, nq4, nq5, nq6])
  refine wpX_callF rfl rfl rfl en48_fr rfl (fun x => small1A x) ?_; rintro xw e wy ⟨z, hz, rfl, hb⟩; refine ⟨_, rfl, hb, ?_⟩; (try simp only [Act.put, nq1, nq2, nq3, nq4, nq5, nq6])
  refine wpX_callF rfl rfl rfl en53_fr rfl (fun x => addA x ‹_› ‹_›) ?_; rintro xw e wy ⟨z, hz, rfl, hb⟩; refine ⟨_, rfl, hb, ?_⟩; (try simp only [Act.put, nq1, nq2, nq3, nq4, nq5, nq6])
  refine wpX_callF rfl rfl rfl en51_fr rfl (fun x => root_any x (by assumption) (by assumption)) ?_; rintro xw e wy ⟨z, hz, rfl, hb⟩; refine ⟨_, rfl, hb, ?_⟩; (try simp only [Act.put, nq1, nq2, nq3, nq4, nq5, nq6])
  (refine wpX_pure (v := ?_) rfl rfl ?_ ?_; rotate_left; (intro wx; go_simp; try go_bits) <;> (with_reducible rfl)); (try simp only [Act.put, nq1, nq2, nq3, nq4, nq5, nq6])
  (refine wpX_pure (v := ?_) rfl rfl ?_ ?_; rotate_left; (intro wx; go_simp; try go_bits) <;> (with_reducible rfl)); (try simp only [Act.put, nq1, nq2, nq3, nq4, nq5, nq6])
  (refine wpX_pure (v := ?_) rfl rfl ?_ ?_; rotate_left; (intro wx; go_simp; try go_bits) <;> (with_reducible rfl)); (try simp only [Act.put, nq1, nq2, nq3, nq4, nq5, nq6])
  refine wpX_nil ?_; intro G xz hx0 hx hF; have hS9 := HS.out.floats hx0 hF _ (by decide) (fun _ h => h); simp only [List.map_cons, List.map_nil, List.cons_append, List.nil_append] at hS9; have HS := hide hS9; have HX := hide hx0; have HG := hide hF.at_; clear hS9 hF hx0 hx; simp only [putsE, List.foldl_cons, List.foldl_nil]; (try simp only [Act.put, nq1, nq2, nq3, nq4, nq5, nq6])
  refine wpS_storeF rfl rfl rfl rfl rfl HS.out HX.out (HG.out 12 (by simp)).1 rowE (.head) (by first | exact EA.arr ‹_› | exact arr_zE) (by first | exact EA.arr ‹_› | exact arr_zE) ?_; intro wz hS9 hX9; have HS := hide hS9; have HX := hide hX9; clear hS9 hX9; (try simp only [Act.put, nq1, nq2, nq3, nq4, nq5, nq6])
  (refine wpS_pure (v := ?_) rfl rfl ?_ ?_; rotate_left; (intro wx; go_simp; try go_bits) <;> (with_reducible rfl)); (try simp only [Act.put, nq1, nq2, nq3, nq4, nq5, nq6])
  refine wpS_nil ?_
  cases hrt : rtF (fbytes (lowL l) * fbytes (lowL l) - 1) (fbytes (lowL l) * fbytes (lowL l) * dF + 1) with
  | none =>
    have hF : fromL l = none := by unfold fromL; rw [if_pos HL.out, unp_none hrt]
    simp only [Option.isSome_none]
    have HFK := hide hF
    clear hrt hF
    go_wp2_with (first | (refine wl_storeR rfl rfl rfl rfl HS.out rowP (.tail (.tail (.tail (.tail (.head))))) (by first | exact arr_zP | exact PtN.arr ‹_› | exact PtV.arr ‹_› | exact qE ‹_› ‹_› ‹_› ‹_›) (by first | exact arr_zP | exact PtN.arr ‹_› | exact PtV.arr ‹_› | exact qE ‹_› ‹_› ‹_› ‹_›) ?_; intro wz hS9; have HS := hide hS9; clear hS9; (try simp only [Act.put, nq1, nq2, nq3, nq4, nq5, nq6])))
    refine bodyPost_ret (results_cell_tmp_row rfl _ _ _ _ _ _ _ rfl (HS.out.heapM (by (repeat first | exact .head _ | apply List.Mem.tail))) Tryd.underlying29 rfl (by first | (rw [(EA.arr ‹_›).size]; kernel_rfl) | (rw [(NA.arr ‹_›).size]; kernel_rfl) | (rw [(qE ‹_› ‹_› ‹_› ‹_›).size]; kernel_rfl) | (rw [(qN ‹_› ‹_› ‹_› ‹_›).size]; kernel_rfl) | (rw [(PtN.arr ‹_›).size]; kernel_rfl) | (rw [(PtV.arr ‹_›).size]; kernel_rfl) | (rw [(QtN.arr ‹_›).size]; kernel_rfl))) rfl ?_
    rw [HFK.out]
    exact ⟨_, hzpt, rfl, HS.out.below⟩
  | some x =>
    have hx := ‹EA _ ((rtF (fbytes (lowL l) * fbytes (lowL l) - 1) (fbytes (lowL l) * fbytes (lowL l) * dF + 1)).getD 0)›
    rw [hrt, Option.getD_some] at hx
    obtain ⟨P, hP, hPx, hPy⟩ := unp_some (odd := topB l) hrt
    have hF : fromL l = if packL P = l then some P else none := by
      unfold fromL
      rw [if_pos HL.out, hP]
    simp only [Option.isSome_some]
    have HF := hide hF
    have HPY := hide hPy
    clear hrt hF hP
    go_upto_region 10 with fail
    have hq := HB.out _ HS.out.below
    have hbp := fun (a b c d : Array Value) (W : World) (ha : EA a P.x) (hb : EA b P.y) (hc : EA c 1) (hd : EA d (P.x * P.y)) => bytesP32 W (PtN.v ⟨⟨P.x, P.y, 1, P.x * P.y⟩, a, b, c, d, rfl, ha, hb, hc, hd, rp_of P⟩)
    have HBP := hide hbp
    have hpt := fun (a b c d : Array Value) (ha : EA a P.x) (hb : EA b P.y) (hc : EA c 1) (hd : EA d (P.x * P.y)) => (PtN.v ⟨⟨P.x, P.y, 1, P.x * P.y⟩, a, b, c, d, rfl, ha, hb, hc, hd, rp_of P⟩ : PtV (quad a b c d) P)
    have HPT := hide hpt
    have HPL := hide (packL_len P)
    clear hbp hpt hPy
    rw [HTOP.out] at hPx
    rw [← HPY.out] at hzy
    by_cases ht : 128 ≤ ch
    · have d1 : decide ((127 : Int) < (ch : Int)) = true := by simp; omega
      have d1' : decide (127 < ch) = true := by simp; omega
      rw [decide_eq_true ht] at hPx
      have hPx2 : P.x = -x := hPx
      clear ht hPx
      by_cases hk : packL P = l
      · have HEQ := hide (fun W B d (hr1 : Rd W (.slice B 32 d) 1 32 (bvs (packL P))) (hr2 : Rd W (.slice (some ⟨b, o, none⟩) 32 c) 1 32 (bvs l)) => equal_walk B (some ⟨b, o, none⟩) 32 d c (packL P) l W HPL.out HL.out (by decide) hr1 hr2)
        rw [decide_eq_true hk] at HEQ
        have HFK := hide (HF.out.trans (if_pos hk))
        clear hk
        go_wp2_with (first | (go_at_call 45; (with_reducible refine (negA _ hx).mono ?_); rintro e wy ⟨zn, hxn, rfl, hb⟩; rw [← hPx2] at hxn; have HS := hide (HS.out.call hb)) | (go_at_call 28; (with_reducible refine (at_any _ hxn hzy).mono ?_); rintro e wy ⟨qa, qb, qc, qd, hqa, hqb, hqc, hqd, rfl, hb⟩; have HS := hide (HS.out.call hb); have hpv := HPT.out _ _ _ _ hqa hqb hqc hqd) | (go_at_call 15; (with_reducible refine (HBP.out _ _ _ _ _ hqa hqb hqc hqd).mono ?_); rintro e wy ⟨B2, d2, rfl, hb, ho⟩; have HS := hide (HS.out.row hb ho); clear ho) | (go_at_call 46; (with_reducible refine (HEQ.out _ _ _ (HS.out.rd 0 rfl) (HR.out.below HS.out.below)).mono ?_); rintro e wy ⟨rfl, hb⟩; have HS := hide (HS.out.call hb)) | (refine wl_loadP rfl rfl rfl HS.out (.head _) rowE (.all (by first | exact EA.arr ‹_› | exact arr_zE)) ?_; (try simp only [Act.put, nq1, nq2, nq3, nq4, nq5, nq6])) | (refine wl_storeR rfl rfl rfl rfl HS.out rowE (.head) (by first | exact EA.arr ‹_› | exact arr_zE) (by first | exact EA.arr ‹_› | exact arr_zE) ?_; intro wz hS9; have HS := hide hS9; clear hS9; (try simp only [Act.put, nq1, nq2, nq3, nq4, nq5, nq6])) | (refine wl_loadP rfl rfl rfl HS.out (.tail _ (.tail _ (.head _))) rowE (.all (by first | exact EA.arr ‹_› | exact arr_zE)) ?_; (try simp only [Act.put, nq1, nq2, nq3, nq4, nq5, nq6])) | (refine wl_storeR rfl rfl rfl rfl HS.out rowP (.head) (by first | exact arr_zP | exact PtN.arr ‹_› | exact PtV.arr ‹_› | exact qE ‹_› ‹_› ‹_› ‹_›) (by first | exact arr_zP | exact PtN.arr ‹_› | exact PtV.arr ‹_› | exact qE ‹_› ‹_› ‹_› ‹_›) ?_; intro wz hS9; have HS := hide hS9; clear hS9; (try simp only [Act.put, nq1, nq2, nq3, nq4, nq5, nq6])) | (refine wl_loadP rfl rfl rfl HS.out (.head _) rowP (.all (by first | exact arr_zP | exact PtN.arr ‹_› | exact PtV.arr ‹_› | exact qE ‹_› ‹_› ‹_› ‹_›)) ?_; (try simp only [Act.put, nq1, nq2, nq3, nq4, nq5, nq6])) | (refine wl_storeR rfl rfl rfl rfl HS.out rowP (.tail (.tail (.tail (.tail (.tail (.tail (.head))))))) (by first | exact arr_zP | exact PtN.arr ‹_› | exact PtV.arr ‹_› | exact qE ‹_› ‹_› ‹_› ‹_›) (by first | exact arr_zP | exact PtN.arr ‹_› | exact PtV.arr ‹_› | exact qE ‹_› ‹_› ‹_› ‹_›) ?_; intro wz hS9; have HS := hide hS9; clear hS9; (try simp only [Act.put, nq1, nq2, nq3, nq4, nq5, nq6])) | (refine wl_loadP rfl rfl rfl HS.out (.tail _ (.head _)) rowP (.all (by first | exact arr_zP | exact PtN.arr ‹_› | exact PtV.arr ‹_› | exact qE ‹_› ‹_› ‹_› ‹_›)) ?_; (try simp only [Act.put, nq1, nq2, nq3, nq4, nq5, nq6])) | (refine wl_allocR rfl rfl HS.out newP ?_; intro gz wz hS9; have HS := hide hS9; clear hS9; (try simp only [Act.put, nq1, nq2, nq3, nq4, nq5, nq6])))
        refine bodyPost_ret (results_cell_tmp_row rfl _ _ _ _ _ _ _ rfl (HS.out.heapM (by (repeat first | exact .head _ | apply List.Mem.tail))) Tryd.underlying29 rfl (by first | (rw [(EA.arr ‹_›).size]; kernel_rfl) | (rw [(NA.arr ‹_›).size]; kernel_rfl) | (rw [(qE ‹_› ‹_› ‹_› ‹_›).size]; kernel_rfl) | (rw [(qN ‹_› ‹_› ‹_› ‹_›).size]; kernel_rfl) | (rw [(PtN.arr ‹_›).size]; kernel_rfl) | (rw [(PtV.arr ‹_›).size]; kernel_rfl) | (rw [(QtN.arr ‹_›).size]; kernel_rfl))) rfl ?_
        rw [HFK.out]
        exact ⟨_, hpv, rfl, HS.out.below⟩
      · have HEQ := hide (fun W B d (hr1 : Rd W (.slice B 32 d) 1 32 (bvs (packL P))) (hr2 : Rd W (.slice (some ⟨b, o, none⟩) 32 c) 1 32 (bvs l)) => equal_walk B (some ⟨b, o, none⟩) 32 d c (packL P) l W HPL.out HL.out (by decide) hr1 hr2)
        rw [decide_eq_false hk] at HEQ
        have HFK := hide (HF.out.trans (if_neg hk))
        clear hk
        go_wp2_with (first | (go_at_call 45; (with_reducible refine (negA _ hx).mono ?_); rintro e wy ⟨zn, hxn, rfl, hb⟩; rw [← hPx2] at hxn; have HS := hide (HS.out.call hb)) | (go_at_call 28; (with_reducible refine (at_any _ hxn hzy).mono ?_); rintro e wy ⟨qa, qb, qc, qd, hqa, hqb, hqc, hqd, rfl, hb⟩; have HS := hide (HS.out.call hb); have hpv := HPT.out _ _ _ _ hqa hqb hqc hqd) | (go_at_call 15; (with_reducible refine (HBP.out _ _ _ _ _ hqa hqb hqc hqd).mono ?_); rintro e wy ⟨B2, d2, rfl, hb, ho⟩; have HS := hide (HS.out.row hb ho); clear ho) | (go_at_call 46; (with_reducible refine (HEQ.out _ _ _ (HS.out.rd 0 rfl) (HR.out.below HS.out.below)).mono ?_); rintro e wy ⟨rfl, hb⟩; have HS := hide (HS.out.call hb)) | (refine wl_loadP rfl rfl rfl HS.out (.head _) rowE (.all (by first | exact EA.arr ‹_› | exact arr_zE)) ?_; (try simp only [Act.put, nq1, nq2, nq3, nq4, nq5, nq6])) | (refine wl_storeR rfl rfl rfl rfl HS.out rowE (.head) (by first | exact EA.arr ‹_› | exact arr_zE) (by first | exact EA.arr ‹_› | exact arr_zE) ?_; intro wz hS9; have HS := hide hS9; clear hS9; (try simp only [Act.put, nq1, nq2, nq3, nq4, nq5, nq6])) | (refine wl_loadP rfl rfl rfl HS.out (.tail _ (.tail _ (.head _))) rowE (.all (by first | exact EA.arr ‹_› | exact arr_zE)) ?_; (try simp only [Act.put, nq1, nq2, nq3, nq4, nq5, nq6])) | (refine wl_storeR rfl rfl rfl rfl HS.out rowP (.head) (by first | exact arr_zP | exact PtN.arr ‹_› | exact PtV.arr ‹_› | exact qE ‹_› ‹_› ‹_› ‹_›) (by first | exact arr_zP | exact PtN.arr ‹_› | exact PtV.arr ‹_› | exact qE ‹_› ‹_› ‹_› ‹_›) ?_; intro wz hS9; have HS := hide hS9; clear hS9; (try simp only [Act.put, nq1, nq2, nq3, nq4, nq5, nq6])) | (refine wl_loadP rfl rfl rfl HS.out (.head _) rowP (.all (by first | exact arr_zP | exact PtN.arr ‹_› | exact PtV.arr ‹_› | exact qE ‹_› ‹_› ‹_› ‹_›)) ?_; (try simp only [Act.put, nq1, nq2, nq3, nq4, nq5, nq6])) | (refine wl_storeR rfl rfl rfl rfl HS.out rowP (.tail (.tail (.tail (.tail (.tail (.tail (.head))))))) (by first | exact arr_zP | exact PtN.arr ‹_› | exact PtV.arr ‹_› | exact qE ‹_› ‹_› ‹_› ‹_›) (by first | exact arr_zP | exact PtN.arr ‹_› | exact PtV.arr ‹_› | exact qE ‹_› ‹_› ‹_› ‹_›) ?_; intro wz hS9; have HS := hide hS9; clear hS9; (try simp only [Act.put, nq1, nq2, nq3, nq4, nq5, nq6])) | (refine wl_loadP rfl rfl rfl HS.out (.tail _ (.head _)) rowP (.all (by first | exact arr_zP | exact PtN.arr ‹_› | exact PtV.arr ‹_› | exact qE ‹_› ‹_› ‹_› ‹_›)) ?_; (try simp only [Act.put, nq1, nq2, nq3, nq4, nq5, nq6])) | (refine wl_allocR rfl rfl HS.out newP ?_; intro gz wz hS9; have HS := hide hS9; clear hS9; (try simp only [Act.put, nq1, nq2, nq3, nq4, nq5, nq6])))
        refine bodyPost_ret (results_cell_tmp_row rfl _ _ _ _ _ _ _ rfl (HS.out.heapM (by (repeat first | exact .head _ | apply List.Mem.tail))) Tryd.underlying29 rfl (by first | (rw [(EA.arr ‹_›).size]; kernel_rfl) | (rw [(NA.arr ‹_›).size]; kernel_rfl) | (rw [(qE ‹_› ‹_› ‹_› ‹_›).size]; kernel_rfl) | (rw [(qN ‹_› ‹_› ‹_› ‹_›).size]; kernel_rfl) | (rw [(PtN.arr ‹_›).size]; kernel_rfl) | (rw [(PtV.arr ‹_›).size]; kernel_rfl) | (rw [(QtN.arr ‹_›).size]; kernel_rfl))) rfl ?_
        rw [HFK.out]
        exact ⟨_, hzpt, rfl, HS.out.below⟩
    · have d1 : decide ((127 : Int) < (ch : Int)) = false := by simp; omega
      have d1' : decide (127 < ch) = false := by simp; omega
      rw [decide_eq_false ht] at hPx
      have hPx2 : P.x = x := hPx
      clear ht hPx
      by_cases hk : packL P = l
      · have HEQ := hide (fun W B d (hr1 : Rd W (.slice B 32 d) 1 32 (bvs (packL P))) (hr2 : Rd W (.slice (some ⟨b, o, none⟩) 32 c) 1 32 (bvs l)) => equal_walk B (some ⟨b, o, none⟩) 32 d c (packL P) l W HPL.out HL.out (by decide) hr1 hr2)
        rw [decide_eq_true hk] at HEQ
        have HFK := hide (HF.out.trans (if_pos hk))
        clear hk
        have hxn := hx
        rw [← hPx2] at hxn
        go_wp2_with (first | (go_at_call 28; (with_reducible refine (at_any _ hxn hzy).mono ?_); rintro e wy ⟨qa, qb, qc, qd, hqa, hqb, hqc, hqd, rfl, hb⟩; have HS := hide (HS.out.call hb); have hpv := HPT.out _ _ _ _ hqa hqb hqc hqd) | (go_at_call 15; (with_reducible refine (HBP.out _ _ _ _ _ hqa hqb hqc hqd).mono ?_); rintro e wy ⟨B2, d2, rfl, hb, ho⟩; have HS := hide (HS.out.row hb ho); clear ho) | (go_at_call 46; (with_reducible refine (HEQ.out _ _ _ (HS.out.rd 0 rfl) (HR.out.below HS.out.below)).mono ?_); rintro e wy ⟨rfl, hb⟩; have HS := hide (HS.out.call hb)) | (refine wl_loadP rfl rfl rfl HS.out (.head _) rowE (.all (by first | exact EA.arr ‹_› | exact arr_zE)) ?_; (try simp only [Act.put, nq1, nq2, nq3, nq4, nq5, nq6])) | (refine wl_storeR rfl rfl rfl rfl HS.out rowE (.head) (by first | exact EA.arr ‹_› | exact arr_zE) (by first | exact EA.arr ‹_› | exact arr_zE) ?_; intro wz hS9; have HS := hide hS9; clear hS9; (try simp only [Act.put, nq1, nq2, nq3, nq4, nq5, nq6])) | (refine wl_loadP rfl rfl rfl HS.out (.tail _ (.tail _ (.head _))) rowE (.all (by first | exact EA.arr ‹_› | exact arr_zE)) ?_; (try simp only [Act.put, nq1, nq2, nq3, nq4, nq5, nq6])) | (refine wl_storeR rfl rfl rfl rfl HS.out rowP (.head) (by first | exact arr_zP | exact PtN.arr ‹_› | exact PtV.arr ‹_› | exact qE ‹_› ‹_› ‹_› ‹_›) (by first | exact arr_zP | exact PtN.arr ‹_› | exact PtV.arr ‹_› | exact qE ‹_› ‹_› ‹_› ‹_›) ?_; intro wz hS9; have HS := hide hS9; clear hS9; (try simp only [Act.put, nq1, nq2, nq3, nq4, nq5, nq6])) | (refine wl_loadP rfl rfl rfl HS.out (.head _) rowP (.all (by first | exact arr_zP | exact PtN.arr ‹_› | exact PtV.arr ‹_› | exact qE ‹_› ‹_› ‹_› ‹_›)) ?_; (try simp only [Act.put, nq1, nq2, nq3, nq4, nq5, nq6])) | (refine wl_storeR rfl rfl rfl rfl HS.out rowP (.tail (.tail (.tail (.tail (.tail (.tail (.head))))))) (by first | exact arr_zP | exact PtN.arr ‹_› | exact PtV.arr ‹_› | exact qE ‹_› ‹_› ‹_› ‹_›) (by first | exact arr_zP | exact PtN.arr ‹_› | exact PtV.arr ‹_› | exact qE ‹_› ‹_› ‹_› ‹_›) ?_; intro wz hS9; have HS := hide hS9; clear hS9; (try simp only [Act.put, nq1, nq2, nq3, nq4, nq5, nq6])) | (refine wl_loadP rfl rfl rfl HS.out (.tail _ (.head _)) rowP (.all (by first | exact arr_zP | exact PtN.arr ‹_› | exact PtV.arr ‹_› | exact qE ‹_› ‹_› ‹_› ‹_›)) ?_; (try simp only [Act.put, nq1, nq2, nq3, nq4, nq5, nq6])) | (refine wl_allocR rfl rfl HS.out newP ?_; intro gz wz hS9; have HS := hide hS9; clear hS9; (try simp only [Act.put, nq1, nq2, nq3, nq4, nq5, nq6])))
        refine bodyPost_ret (results_cell_tmp_row rfl _ _ _ _ _ _ _ rfl (HS.out.heapM (by (repeat first | exact .head _ | apply List.Mem.tail))) Tryd.underlying29 rfl (by first | (rw [(EA.arr ‹_›).size]; kernel_rfl) | (rw [(NA.arr ‹_›).size]; kernel_rfl) | (rw [(qE ‹_› ‹_› ‹_› ‹_›).size]; kernel_rfl) | (rw [(qN ‹_› ‹_› ‹_› ‹_›).size]; kernel_rfl) | (rw [(PtN.arr ‹_›).size]; kernel_rfl) | (rw [(PtV.arr ‹_›).size]; kernel_rfl) | (rw [(QtN.arr ‹_›).size]; kernel_rfl))) rfl ?_
        rw [HFK.out]
        exact ⟨_, hpv, rfl, HS.out.below⟩
      · have HEQ := hide (fun W B d (hr1 : Rd W (.slice B 32 d) 1 32 (bvs (packL P))) (hr2 : Rd W (.slice (some ⟨b, o, none⟩) 32 c) 1 32 (bvs l)) => equal_walk B (some ⟨b, o, none⟩) 32 d c (packL P) l W HPL.out HL.out (by decide) hr1 hr2)
        rw [decide_eq_false hk] at HEQ
        have HFK := hide (HF.out.trans (if_neg hk))
        clear hk
        have hxn := hx
        rw [← hPx2] at hxn
        go_wp2_with (first | (go_at_call 28; (with_reducible refine (at_any _ hxn hzy).mono ?_); rintro e wy ⟨qa, qb, qc, qd, hqa, hqb, hqc, hqd, rfl, hb⟩; have HS := hide (HS.out.call hb); have hpv := HPT.out _ _ _ _ hqa hqb hqc hqd) | (go_at_call 15; (with_reducible refine (HBP.out _ _ _ _ _ hqa hqb hqc hqd).mono ?_); rintro e wy ⟨B2, d2, rfl, hb, ho⟩; have HS := hide (HS.out.row hb ho); clear ho) | (go_at_call 46; (with_reducible refine (HEQ.out _ _ _ (HS.out.rd 0 rfl) (HR.out.below HS.out.below)).mono ?_); rintro e wy ⟨rfl, hb⟩; have HS := hide (HS.out.call hb)) | (refine wl_loadP rfl rfl rfl HS.out (.head _) rowE (.all (by first | exact EA.arr ‹_› | exact arr_zE)) ?_; (try simp only [Act.put, nq1, nq2, nq3, nq4, nq5, nq6])) | (refine wl_storeR rfl rfl rfl rfl HS.out rowE (.head) (by first | exact EA.arr ‹_› | exact arr_zE) (by first | exact EA.arr ‹_› | exact arr_zE) ?_; intro wz hS9; have HS := hide hS9; clear hS9; (try simp only [Act.put, nq1, nq2, nq3, nq4, nq5, nq6])) | (refine wl_loadP rfl rfl rfl HS.out (.tail _ (.tail _ (.head _))) rowE (.all (by first | exact EA.arr ‹_› | exact arr_zE)) ?_; (try simp only [Act.put, nq1, nq2, nq3, nq4, nq5, nq6])) | (refine wl_storeR rfl rfl rfl rfl HS.out rowP (.head) (by first | exact arr_zP | exact PtN.arr ‹_› | exact PtV.arr ‹_› | exact qE ‹_› ‹_› ‹_› ‹_›) (by first | exact arr_zP | exact PtN.arr ‹_› | exact PtV.arr ‹_› | exact qE ‹_› ‹_› ‹_› ‹_›) ?_; intro wz hS9; have HS := hide hS9; clear hS9; (try simp only [Act.put, nq1, nq2, nq3, nq4, nq5, nq6])) | (refine wl_loadP rfl rfl rfl HS.out (.head _) rowP (.all (by first | exact arr_zP | exact PtN.arr ‹_› | exact PtV.arr ‹_› | exact qE ‹_› ‹_› ‹_› ‹_›)) ?_; (try simp only [Act.put, nq1, nq2, nq3, nq4, nq5, nq6])) | (refine wl_storeR rfl rfl rfl rfl HS.out rowP (.tail (.tail (.tail (.tail (.tail (.tail (.head))))))) (by first | exact arr_zP | exact PtN.arr ‹_› | exact PtV.arr ‹_› | exact qE ‹_› ‹_› ‹_› ‹_›) (by first | exact arr_zP | exact PtN.arr ‹_› | exact PtV.arr ‹_› | exact qE ‹_› ‹_› ‹_› ‹_›) ?_; intro wz hS9; have HS := hide hS9; clear hS9; (try simp only [Act.put, nq1, nq2, nq3, nq4, nq5, nq6])) | (refine wl_loadP rfl rfl rfl HS.out (.tail _ (.head _)) rowP (.all (by first | exact arr_zP | exact PtN.arr ‹_› | exact PtV.arr ‹_› | exact qE ‹_› ‹_› ‹_› ‹_›)) ?_; (try simp only [Act.put, nq1, nq2, nq3, nq4, nq5, nq6])) | (refine wl_allocR rfl rfl HS.out newP ?_; intro gz wz hS9; have HS := hide hS9; clear hS9; (try simp only [Act.put, nq1, nq2, nq3, nq4, nq5, nq6])))
        refine bodyPost_ret (results_cell_tmp_row rfl _ _ _ _ _ _ _ rfl (HS.out.heapM (by (repeat first | exact .head _ | apply List.Mem.tail))) Tryd.underlying29 rfl (by first | (rw [(EA.arr ‹_›).size]; kernel_rfl) | (rw [(NA.arr ‹_›).size]; kernel_rfl) | (rw [(qE ‹_› ‹_› ‹_› ‹_›).size]; kernel_rfl) | (rw [(qN ‹_› ‹_› ‹_› ‹_›).size]; kernel_rfl) | (rw [(PtN.arr ‹_›).size]; kernel_rfl) | (rw [(PtV.arr ‹_›).size]; kernel_rfl) | (rw [(QtN.arr ‹_›).size]; kernel_rfl))) rfl ?_
        rw [HFK.out]
        exact ⟨_, hzpt, rfl, HS.out.below⟩
end Go.Proofs.YtgahjjdbpjgemaaDoor

/-
  Layer 4: the page's bytes of a point, and are two the same.
-/
namespace Go.Proofs.YtgahjjdbpjgemaaDoor
open Go.RowKit
set_option linter.unusedSimpArgs false

set_option maxRecDepth 100000 in
set_option maxHeartbeats 1600000 in
theorem packQ {v : Array Value} {P : Ed} (w : World) (hv : QtN v P) : Calls Tryd.prog 16 #[.agg v] w (ResB 5 w (packL P)) := by
  have HS := hide (St.init w NoB)
  obtain ⟨⟨X, Y, Z, T⟩, a, b, c, d, rfl, h1, h2, h3, h4, h5⟩ := hv.ex
  obtain ⟨l, r, hl31, hr128, e1, e2⟩ := top_bit P.y.val (Nat.lt_trans P.y.isLt pq_255)
  have HE1 := hide e1
  have HE2 := hide e2
  have HL31 := hide hl31
  have hpk : packL P = if P.x.val % 2 = 1 then l ++ [UInt8.ofNat (r + 128)] else l ++ [UInt8.ofNat r] := by
    unfold packL packN
    split
    · exact e2
    · rw [Nat.add_zero]; exact e1
  have HPK := hide hpk
  have hlen : (l ++ [UInt8.ofNat r]).length = 32 := by rw [List.length_append, hl31]; rfl
  have HLEN := hide hlen
  clear e1 e2 hpk hl31 hlen
  go_enter Tryd.func16, Tryd.ntmps16
  go_upto_region 3 with (first
    | (go_at_call 39; (with_reducible refine (invNA _ h3).mono ?_); rintro e wy ⟨zi, hzi, rfl, hb⟩; have HS := hide (HS.out.call hb))
    | (go_at_call 34; (with_reducible refine (mulNA _ h2 hzi).mono ?_); rintro e wy ⟨zy, hzy, rfl, hb⟩; rw [rp_y h5] at hzy; have HS := hide (HS.out.call hb))
    | (go_at_call 40; (with_reducible refine (bytesNA _ hzy).mono ?_); rintro e wy hRB; rw [HE1.out] at hRB; obtain ⟨B, dd, rfl, hb, ho⟩ := hRB; rw [HLEN.out] at ho ⊢; have HS := hide (HS.out.row hb ho); clear ho)
    | (refine wl_loadP rfl rfl rfl HS.out (by (repeat first | exact .head _ | apply List.Mem.tail)) (by first | exact rowE | exact rowP | exact rowN | exact rowQ) (by (first | exact .q0 (EA.arr ‹_›) | exact .q1 (EA.arr ‹_›) (EA.arr ‹_›) | exact .q2 (EA.arr ‹_›) (EA.arr ‹_›) (EA.arr ‹_›) | exact .q3 (EA.arr ‹_›) (EA.arr ‹_›) (EA.arr ‹_›) (EA.arr ‹_›) | exact .q0 (NA.arr ‹_›) | exact .q1 (NA.arr ‹_›) (NA.arr ‹_›) | exact .q2 (NA.arr ‹_›) (NA.arr ‹_›) (NA.arr ‹_›) | exact .q3 (NA.arr ‹_›) (NA.arr ‹_›) (NA.arr ‹_›) (NA.arr ‹_›) | exact .all (by (first | exact EA.arr ‹_› | exact NA.arr ‹_› | exact arr_zE | exact arr_zN | exact arr_zP | exact arr_zQ | exact PtN.arr ‹_› | exact PtV.arr ‹_› | exact QtN.arr ‹_› | exact qE ‹_› ‹_› ‹_› ‹_› | exact qN ‹_› ‹_› ‹_› ‹_›)))) ?_; (try simp only [Act.put, nq1, nq2, nq3, nq4, nq5, nq6])) | (refine wl_storeR rfl rfl rfl rfl HS.out (by first | exact rowE | exact rowP | exact rowN | exact rowQ) (by (repeat first | exact .head | apply Upd.tail)) (by (first | exact EA.arr ‹_› | exact NA.arr ‹_› | exact arr_zE | exact arr_zN | exact arr_zP | exact arr_zQ | exact PtN.arr ‹_› | exact PtV.arr ‹_› | exact QtN.arr ‹_› | exact qE ‹_› ‹_› ‹_› ‹_› | exact qN ‹_› ‹_› ‹_› ‹_›)) (by (first | exact EA.arr ‹_› | exact NA.arr ‹_› | exact arr_zE | exact arr_zN | exact arr_zP | exact arr_zQ | exact PtN.arr ‹_› | exact PtV.arr ‹_› | exact QtN.arr ‹_› | exact qE ‹_› ‹_› ‹_› ‹_› | exact qN ‹_› ‹_› ‹_› ‹_›)) ?_; intro wz hS9; have HS := hide hS9; clear hS9; (try simp only [Act.put, nq1, nq2, nq3, nq4, nq5, nq6])) | (refine wl_allocR rfl rfl HS.out (by first | exact newE | exact newP | exact newN | exact newQ) ?_; intro gz wz hS9; have HS := hide hS9; clear hS9; (try simp only [Act.put, nq1, nq2, nq3, nq4, nq5, nq6])) | (refine wl_boxR rfl rfl rfl HS.out ?_; intro gz wz hS9; have HS := hide hS9; clear hS9; (try simp only [Act.put, nq1, nq2, nq3, nq4, nq5, nq6])))
  have gB : ((bvs (l ++ [UInt8.ofNat r]))[31]? = some (.int .u8 (r : Int))) := by
    rw [bvs_get (list_top HL31.out (UInt8.ofNat r)).1, UInt8.toNat_ofNat', Nat.mod_eq_of_lt (by omega)]
  have GB := hide gB
  have hor := u8_or128 r hr128
  have HR := hide hr128
  clear gB
  have hx31 := rp_x h5
  by_cases hodd : P.x.val % 2 = 1
  · go_wp2_with (first
      | (go_at_call 34; (with_reducible refine (mulNA _ h1 hzi).mono ?_); rintro e wy ⟨zx, hzx, rfl, hb⟩; rw [hx31] at hzx; have HS := hide (HS.out.call hb))
      | (go_at_call 41; (with_reducible refine (oddNA _ hzx).mono ?_); rintro e wy ⟨rfl, hb⟩; rw [decide_eq_true hodd]; have HS := hide (HS.out.call hb); obtain ⟨g, c1, hvv, _, _, hcs, hfr, _⟩ := HS.out.rowOpen 0 rfl (by omega); injection hvv with hvv1 _ hvv3; subst hvv1 hvv3; have k31 := hcs 31 _ GB.out; have f31 := hfr 31; have HS9 := hide HS.out; clear hcs hfr)
      | (refine wl_loadP rfl rfl rfl HS.out (by (repeat first | exact .head _ | apply List.Mem.tail)) (by first | exact rowE | exact rowP | exact rowN | exact rowQ) (by (first | exact .q0 (EA.arr ‹_›) | exact .q1 (EA.arr ‹_›) (EA.arr ‹_›) | exact .q2 (EA.arr ‹_›) (EA.arr ‹_›) (EA.arr ‹_›) | exact .q3 (EA.arr ‹_›) (EA.arr ‹_›) (EA.arr ‹_›) (EA.arr ‹_›) | exact .q0 (NA.arr ‹_›) | exact .q1 (NA.arr ‹_›) (NA.arr ‹_›) | exact .q2 (NA.arr ‹_›) (NA.arr ‹_›) (NA.arr ‹_›) | exact .q3 (NA.arr ‹_›) (NA.arr ‹_›) (NA.arr ‹_›) (NA.arr ‹_›) | exact .all (by (first | exact EA.arr ‹_› | exact NA.arr ‹_› | exact arr_zE | exact arr_zN | exact arr_zP | exact arr_zQ | exact PtN.arr ‹_› | exact PtV.arr ‹_› | exact QtN.arr ‹_› | exact qE ‹_› ‹_› ‹_› ‹_› | exact qN ‹_› ‹_› ‹_› ‹_›)))) ?_; (try simp only [Act.put, nq1, nq2, nq3, nq4, nq5, nq6])) | (refine wl_storeR rfl rfl rfl rfl HS.out (by first | exact rowE | exact rowP | exact rowN | exact rowQ) (by (repeat first | exact .head | apply Upd.tail)) (by (first | exact EA.arr ‹_› | exact NA.arr ‹_› | exact arr_zE | exact arr_zN | exact arr_zP | exact arr_zQ | exact PtN.arr ‹_› | exact PtV.arr ‹_› | exact QtN.arr ‹_› | exact qE ‹_› ‹_› ‹_› ‹_› | exact qN ‹_› ‹_› ‹_› ‹_›)) (by (first | exact EA.arr ‹_› | exact NA.arr ‹_› | exact arr_zE | exact arr_zN | exact arr_zP | exact arr_zQ | exact PtN.arr ‹_› | exact PtV.arr ‹_› | exact QtN.arr ‹_› | exact qE ‹_› ‹_› ‹_› ‹_› | exact qN ‹_› ‹_› ‹_› ‹_›)) ?_; intro wz hS9; have HS := hide hS9; clear hS9; (try simp only [Act.put, nq1, nq2, nq3, nq4, nq5, nq6])) | (refine wl_allocR rfl rfl HS.out (by first | exact newE | exact newP | exact newN | exact newQ) ?_; intro gz wz hS9; have HS := hide hS9; clear hS9; (try simp only [Act.put, nq1, nq2, nq3, nq4, nq5, nq6])) | (refine wl_boxR rfl rfl rfl HS.out ?_; intro gz wz hS9; have HS := hide hS9; clear hS9; (try simp only [Act.put, nq1, nq2, nq3, nq4, nq5, nq6])))
    go_ret
    have h9 := HS9.out.rowSet 0 rfl 31 (.int .u8 ((r + 128 : Nat) : Int)) (by omega)
    rw [bvs_set _ _ _ (by have := HR.out; omega), (list_top HL31.out _).2] at h9
    refine resB_of h9 0 rfl ?_
    rw [HPK.out, if_pos hodd]
  · go_wp2_with (first
      | (go_at_call 34; (with_reducible refine (mulNA _ h1 hzi).mono ?_); rintro e wy ⟨zx, hzx, rfl, hb⟩; rw [hx31] at hzx; have HS := hide (HS.out.call hb))
      | (go_at_call 41; (with_reducible refine (oddNA _ hzx).mono ?_); rintro e wy ⟨rfl, hb⟩; rw [decide_eq_false hodd]; have HS := hide (HS.out.call hb))
      | (refine wl_loadP rfl rfl rfl HS.out (by (repeat first | exact .head _ | apply List.Mem.tail)) (by first | exact rowE | exact rowP | exact rowN | exact rowQ) (by (first | exact .q0 (EA.arr ‹_›) | exact .q1 (EA.arr ‹_›) (EA.arr ‹_›) | exact .q2 (EA.arr ‹_›) (EA.arr ‹_›) (EA.arr ‹_›) | exact .q3 (EA.arr ‹_›) (EA.arr ‹_›) (EA.arr ‹_›) (EA.arr ‹_›) | exact .q0 (NA.arr ‹_›) | exact .q1 (NA.arr ‹_›) (NA.arr ‹_›) | exact .q2 (NA.arr ‹_›) (NA.arr ‹_›) (NA.arr ‹_›) | exact .q3 (NA.arr ‹_›) (NA.arr ‹_›) (NA.arr ‹_›) (NA.arr ‹_›) | exact .all (by (first | exact EA.arr ‹_› | exact NA.arr ‹_› | exact arr_zE | exact arr_zN | exact arr_zP | exact arr_zQ | exact PtN.arr ‹_› | exact PtV.arr ‹_› | exact QtN.arr ‹_› | exact qE ‹_› ‹_› ‹_› ‹_› | exact qN ‹_› ‹_› ‹_› ‹_›)))) ?_; (try simp only [Act.put, nq1, nq2, nq3, nq4, nq5, nq6])) | (refine wl_storeR rfl rfl rfl rfl HS.out (by first | exact rowE | exact rowP | exact rowN | exact rowQ) (by (repeat first | exact .head | apply Upd.tail)) (by (first | exact EA.arr ‹_› | exact NA.arr ‹_› | exact arr_zE | exact arr_zN | exact arr_zP | exact arr_zQ | exact PtN.arr ‹_› | exact PtV.arr ‹_› | exact QtN.arr ‹_› | exact qE ‹_› ‹_› ‹_› ‹_› | exact qN ‹_› ‹_› ‹_› ‹_›)) (by (first | exact EA.arr ‹_› | exact NA.arr ‹_› | exact arr_zE | exact arr_zN | exact arr_zP | exact arr_zQ | exact PtN.arr ‹_› | exact PtV.arr ‹_› | exact QtN.arr ‹_› | exact qE ‹_› ‹_› ‹_› ‹_› | exact qN ‹_› ‹_› ‹_› ‹_›)) ?_; intro wz hS9; have HS := hide hS9; clear hS9; (try simp only [Act.put, nq1, nq2, nq3, nq4, nq5, nq6])) | (refine wl_allocR rfl rfl HS.out (by first | exact newE | exact newP | exact newN | exact newQ) ?_; intro gz wz hS9; have HS := hide hS9; clear hS9; (try simp only [Act.put, nq1, nq2, nq3, nq4, nq5, nq6])) | (refine wl_boxR rfl rfl rfl HS.out ?_; intro gz wz hS9; have HS := hide hS9; clear hS9; (try simp only [Act.put, nq1, nq2, nq3, nq4, nq5, nq6])))
    go_ret
    refine resB_of HS.out 0 rfl ?_
    rw [HPK.out, if_neg hodd]
/-! Are two the same: x over z, y over z. -/
theorem same_pt {A B : Pj} {P Q : Ed} (h : Rp A P) (h' : Rp B Q) : (A.X * B.Z = B.X * A.Z ↔ P.x = Q.x) ∧ (A.Y * B.Z = B.Y * A.Z ↔ P.y = Q.y) := by
  have hz : A.Z * B.Z ≠ 0 := fun e => (fk_mul0 e).elim h.z h'.z
  rw [h.x, h'.x, h.y, h'.y]
  have k : ∀ a b : FK, a * A.Z * B.Z = b * B.Z * A.Z ↔ a = b := fun a b => ⟨fun e => fcancel hz (by rw [show A.Z * B.Z * a = a * A.Z * B.Z by grind, e]; grind), fun e => by rw [e]; grind⟩
  exact ⟨k _ _, k _ _⟩
theorem en34_sq (args : Array Value) (w : World) : (callFunc 34 args).run Tryd.prog w = .ok (.enter 34 args) w := by kernel_rfl
theorem en47_sq (args : Array Value) (w : World) : (callFunc 47 args).run Tryd.prog w = .ok (.enter 47 args) w := by kernel_rfl
set_option maxRecDepth 100000 in
set_option maxHeartbeats 6400000 in
theorem samePtQ {u v : Array Value} {P Q : Ed} (w : World) (hu : QtN u P) (hv : QtN v Q) : Calls Tryd.prog 22 #[.agg u, .agg v] w fun e w' => e = .returned (.bool (decide (packL P = packL Q))) ∧ Below w.heap.size w w' := by
  obtain ⟨⟨X, Y, Z, T⟩, a, b, c, d, rfl, h1, h2, h3, h4, h5⟩ := hu.ex
  obtain ⟨⟨X', Y', Z', T'⟩, a', b', c', d', rfl, g1, g2, g3, g4, g5⟩ := hv.ex
  obtain ⟨sx, sy⟩ := same_pt h5 g5
  have HS := hide (St.init w NoB)
  have HEX := hide sx
  have HEY := hide sy
  clear sx sy
  go_enter Tryd.func22, Tryd.ntmps22
  go_wp2_with (first | (refine wl_loadP rfl rfl rfl HS.out (by (repeat first | exact .head _ | apply List.Mem.tail)) (by first | exact rowE | exact rowP | exact rowN | exact rowQ) (by (first | exact .q0 (EA.arr ‹_›) | exact .q1 (EA.arr ‹_›) (EA.arr ‹_›) | exact .q2 (EA.arr ‹_›) (EA.arr ‹_›) (EA.arr ‹_›) | exact .q3 (EA.arr ‹_›) (EA.arr ‹_›) (EA.arr ‹_›) (EA.arr ‹_›) | exact .q0 (NA.arr ‹_›) | exact .q1 (NA.arr ‹_›) (NA.arr ‹_›) | exact .q2 (NA.arr ‹_›) (NA.arr ‹_›) (NA.arr ‹_›) | exact .q3 (NA.arr ‹_›) (NA.arr ‹_›) (NA.arr ‹_›) (NA.arr ‹_›) | exact .all (by (first | exact EA.arr ‹_› | exact NA.arr ‹_› | exact arr_zE | exact arr_zN | exact arr_zP | exact arr_zQ | exact PtN.arr ‹_› | exact PtV.arr ‹_› | exact QtN.arr ‹_› | exact qE ‹_› ‹_› ‹_› ‹_› | exact qN ‹_› ‹_› ‹_› ‹_›)))) ?_; (try simp only [Act.put, nq1, nq2, nq3, nq4, nq5, nq6])) | (refine wl_storeR rfl rfl rfl rfl HS.out (by first | exact rowE | exact rowP | exact rowN | exact rowQ) (by (repeat first | exact .head | apply Upd.tail)) (by (first | exact EA.arr ‹_› | exact NA.arr ‹_› | exact arr_zE | exact arr_zN | exact arr_zP | exact arr_zQ | exact PtN.arr ‹_› | exact PtV.arr ‹_› | exact QtN.arr ‹_› | exact qE ‹_› ‹_› ‹_› ‹_› | exact qN ‹_› ‹_› ‹_› ‹_›)) (by (first | exact EA.arr ‹_› | exact NA.arr ‹_› | exact arr_zE | exact arr_zN | exact arr_zP | exact arr_zQ | exact PtN.arr ‹_› | exact PtV.arr ‹_› | exact QtN.arr ‹_› | exact qE ‹_› ‹_› ‹_› ‹_› | exact qN ‹_› ‹_› ‹_› ‹_›)) ?_; intro wz hS9; have HS := hide hS9; clear hS9; (try simp only [Act.put, nq1, nq2, nq3, nq4, nq5, nq6])) | (refine wl_allocR rfl rfl HS.out (by first | exact newE | exact newP | exact newN | exact newQ) ?_; intro gz wz hS9; have HS := hide hS9; clear hS9; (try simp only [Act.put, nq1, nq2, nq3, nq4, nq5, nq6])) | (refine wl_boxR rfl rfl rfl HS.out ?_; intro gz wz hS9; have HS := hide hS9; clear hS9; (try simp only [Act.put, nq1, nq2, nq3, nq4, nq5, nq6])))
  by_cases hx : X * Z' = X' * Z
  · have HX9 := hide hx
    clear hx
    have HS := hide HS.out.drew
    refine wp_region_T [(0, 1), (1, 0), (2, 1), (3, 0), (5, 1), (6, 0), (7, 1), (8, 0), (4, 2), (9, 2), (10, 2), (11, 1), (12, 1), (13, 0), (14, 1), (15, 0), (17, 1), (18, 0), (19, 1), (20, 0), (16, 2), (21, 2), (22, 2), (23, 1), (24, 1)] (by kernel_rfl) (by kernel_rfl) (fun _ _ _ _ h => h) ?_
    (refine wpT_pure (v := ?_) rfl rfl ?_ ?_; rotate_left; (intro wx; go_simp; try go_bits) <;> (with_reducible rfl)); (try simp only [Act.put, nq1, nq2, nq3, nq4, nq5, nq6])
    refine wpT_loadP rfl rfl rfl rfl HS.out (.tail _ (.head _)) rowN (.q0 (NA.arr ‹_›)) ?_; (try simp only [Act.put, nq1, nq2, nq3, nq4, nq5, nq6])
    (refine wpT_pure (v := ?_) rfl rfl ?_ ?_; rotate_left; (intro wx; go_simp; try go_bits) <;> (with_reducible rfl)); (try simp only [Act.put, nq1, nq2, nq3, nq4, nq5, nq6])
    refine wpT_loadP rfl rfl rfl rfl HS.out (.head _) rowN (.q2 (NA.arr ‹_›) (NA.arr ‹_›) (NA.arr ‹_›)) ?_; (try simp only [Act.put, nq1, nq2, nq3, nq4, nq5, nq6])
    (refine wpT_pure (v := ?_) rfl rfl ?_ ?_; rotate_left; (intro wx; go_simp; try go_bits) <;> (with_reducible rfl)); (try simp only [Act.put, nq1, nq2, nq3, nq4, nq5, nq6])
    refine wpT_loadP rfl rfl rfl rfl HS.out (.head _) rowN (.q0 (NA.arr ‹_›)) ?_; (try simp only [Act.put, nq1, nq2, nq3, nq4, nq5, nq6])
    (refine wpT_pure (v := ?_) rfl rfl ?_ ?_; rotate_left; (intro wx; go_simp; try go_bits) <;> (with_reducible rfl)); (try simp only [Act.put, nq1, nq2, nq3, nq4, nq5, nq6])
    refine wpT_loadP rfl rfl rfl rfl HS.out (.tail _ (.head _)) rowN (.q2 (NA.arr ‹_›) (NA.arr ‹_›) (NA.arr ‹_›)) ?_; (try simp only [Act.put, nq1, nq2, nq3, nq4, nq5, nq6])
    refine wpT_callF rfl rfl rfl en34_sq rfl (mulNA _ ‹_› ‹_›) ?_; rintro e wy ⟨z, hz, rfl, hb⟩; refine ⟨_, rfl, hb, ?_⟩; have HS := hide (HS.out.call hb); (try simp only [Act.put, nq1, nq2, nq3, nq4, nq5, nq6])
    refine wpT_callF rfl rfl rfl en34_sq rfl (mulNA _ ‹_› ‹_›) ?_; rintro e wy ⟨z, hz, rfl, hb⟩; refine ⟨_, rfl, hb, ?_⟩; have HS := hide (HS.out.call hb); (try simp only [Act.put, nq1, nq2, nq3, nq4, nq5, nq6])
    refine wpT_callF rfl rfl rfl en47_sq rfl (sameNA _ ‹_› ‹_›) ?_; rintro e wy ⟨rfl, hb⟩; rw [decide_eq_true HX9.out]; refine ⟨_, rfl, hb, ?_⟩; have HS := hide (HS.out.call hb); (try simp only [Act.put, nq1, nq2, nq3, nq4, nq5, nq6])
    (refine wpT_pure (v := ?_) rfl rfl ?_ ?_; rotate_left; (intro wx; go_simp; try go_bits) <;> (with_reducible rfl)); (try simp only [Act.put, nq1, nq2, nq3, nq4, nq5, nq6])
    (refine wpT_pure (v := ?_) rfl rfl ?_ ?_; rotate_left; (intro wx; go_simp; try go_bits) <;> (with_reducible rfl)); (try simp only [Act.put, nq1, nq2, nq3, nq4, nq5, nq6])
    refine wpT_loadP rfl rfl rfl rfl HS.out (.tail _ (.head _)) rowN (.q1 (NA.arr ‹_›) (NA.arr ‹_›)) ?_; (try simp only [Act.put, nq1, nq2, nq3, nq4, nq5, nq6])
    (refine wpT_pure (v := ?_) rfl rfl ?_ ?_; rotate_left; (intro wx; go_simp; try go_bits) <;> (with_reducible rfl)); (try simp only [Act.put, nq1, nq2, nq3, nq4, nq5, nq6])
    refine wpT_loadP rfl rfl rfl rfl HS.out (.head _) rowN (.q2 (NA.arr ‹_›) (NA.arr ‹_›) (NA.arr ‹_›)) ?_; (try simp only [Act.put, nq1, nq2, nq3, nq4, nq5, nq6])
    (refine wpT_pure (v := ?_) rfl rfl ?_ ?_; rotate_left; (intro wx; go_simp; try go_bits) <;> (with_reducible rfl)); (try simp only [Act.put, nq1, nq2, nq3, nq4, nq5, nq6])
    refine wpT_loadP rfl rfl rfl rfl HS.out (.head _) rowN (.q1 (NA.arr ‹_›) (NA.arr ‹_›)) ?_; (try simp only [Act.put, nq1, nq2, nq3, nq4, nq5, nq6])
    (refine wpT_pure (v := ?_) rfl rfl ?_ ?_; rotate_left; (intro wx; go_simp; try go_bits) <;> (with_reducible rfl)); (try simp only [Act.put, nq1, nq2, nq3, nq4, nq5, nq6])
    refine wpT_loadP rfl rfl rfl rfl HS.out (.tail _ (.head _)) rowN (.q2 (NA.arr ‹_›) (NA.arr ‹_›) (NA.arr ‹_›)) ?_; (try simp only [Act.put, nq1, nq2, nq3, nq4, nq5, nq6])
    refine wpT_callF rfl rfl rfl en34_sq rfl (mulNA _ ‹_› ‹_›) ?_; rintro e wy ⟨z, hz, rfl, hb⟩; refine ⟨_, rfl, hb, ?_⟩; have HS := hide (HS.out.call hb); (try simp only [Act.put, nq1, nq2, nq3, nq4, nq5, nq6])
    refine wpT_callF rfl rfl rfl en34_sq rfl (mulNA _ ‹_› ‹_›) ?_; rintro e wy ⟨z, hz, rfl, hb⟩; refine ⟨_, rfl, hb, ?_⟩; have HS := hide (HS.out.call hb); (try simp only [Act.put, nq1, nq2, nq3, nq4, nq5, nq6])
    refine wpT_callF rfl rfl rfl en47_sq rfl (sameNA _ ‹_› ‹_›) ?_; rintro e wy ⟨rfl, hb⟩; refine ⟨_, rfl, hb, ?_⟩; have HS := hide (HS.out.call hb); (try simp only [Act.put, nq1, nq2, nq3, nq4, nq5, nq6])
    (refine wpT_pure (v := ?_) rfl rfl ?_ ?_; rotate_left; (intro wx; go_simp; try go_bits) <;> (with_reducible rfl)); (try simp only [Act.put, nq1, nq2, nq3, nq4, nq5, nq6])
    (refine wpT_pure (v := ?_) rfl rfl ?_ ?_; rotate_left; (intro wx; go_simp; try go_bits) <;> (with_reducible rfl)); (try simp only [Act.put, nq1, nq2, nq3, nq4, nq5, nq6])
    refine wpT_nil ?_
    go_wp2_with fail
    go_ret
    refine ⟨?_, HS.out.below⟩
    have ex := HEX.out.1 HX9.out
    by_cases hy : Y * Z' = Y' * Z
    · rw [decide_eq_true hy, decide_eq_true (by rw [Ed.eq ex (HEY.out.1 hy)])]; rfl
    · rw [decide_eq_false hy, decide_eq_false fun e => hy (HEY.out.2 (by rw [packL_inj e]))]; rfl
  · have HX9 := hide hx
    clear hx
    have HS := hide HS.out.drew
    refine wp_region_T [(0, 1), (1, 0), (2, 1), (3, 0), (5, 1), (6, 0), (7, 1), (8, 0), (4, 2), (9, 2), (10, 2), (11, 1), (12, 1), (13, 0), (14, 1), (15, 0), (17, 1), (18, 0), (19, 1), (20, 0), (16, 2), (21, 2), (22, 2), (23, 1), (24, 1)] (by kernel_rfl) (by kernel_rfl) (fun _ _ _ _ h => h) ?_
    (refine wpT_pure (v := ?_) rfl rfl ?_ ?_; rotate_left; (intro wx; go_simp; try go_bits) <;> (with_reducible rfl)); (try simp only [Act.put, nq1, nq2, nq3, nq4, nq5, nq6])
    refine wpT_loadP rfl rfl rfl rfl HS.out (.tail _ (.head _)) rowN (.q0 (NA.arr ‹_›)) ?_; (try simp only [Act.put, nq1, nq2, nq3, nq4, nq5, nq6])
    (refine wpT_pure (v := ?_) rfl rfl ?_ ?_; rotate_left; (intro wx; go_simp; try go_bits) <;> (with_reducible rfl)); (try simp only [Act.put, nq1, nq2, nq3, nq4, nq5, nq6])
    refine wpT_loadP rfl rfl rfl rfl HS.out (.head _) rowN (.q2 (NA.arr ‹_›) (NA.arr ‹_›) (NA.arr ‹_›)) ?_; (try simp only [Act.put, nq1, nq2, nq3, nq4, nq5, nq6])
    (refine wpT_pure (v := ?_) rfl rfl ?_ ?_; rotate_left; (intro wx; go_simp; try go_bits) <;> (with_reducible rfl)); (try simp only [Act.put, nq1, nq2, nq3, nq4, nq5, nq6])
    refine wpT_loadP rfl rfl rfl rfl HS.out (.head _) rowN (.q0 (NA.arr ‹_›)) ?_; (try simp only [Act.put, nq1, nq2, nq3, nq4, nq5, nq6])
    (refine wpT_pure (v := ?_) rfl rfl ?_ ?_; rotate_left; (intro wx; go_simp; try go_bits) <;> (with_reducible rfl)); (try simp only [Act.put, nq1, nq2, nq3, nq4, nq5, nq6])
    refine wpT_loadP rfl rfl rfl rfl HS.out (.tail _ (.head _)) rowN (.q2 (NA.arr ‹_›) (NA.arr ‹_›) (NA.arr ‹_›)) ?_; (try simp only [Act.put, nq1, nq2, nq3, nq4, nq5, nq6])
    refine wpT_callF rfl rfl rfl en34_sq rfl (mulNA _ ‹_› ‹_›) ?_; rintro e wy ⟨z, hz, rfl, hb⟩; refine ⟨_, rfl, hb, ?_⟩; have HS := hide (HS.out.call hb); (try simp only [Act.put, nq1, nq2, nq3, nq4, nq5, nq6])
    refine wpT_callF rfl rfl rfl en34_sq rfl (mulNA _ ‹_› ‹_›) ?_; rintro e wy ⟨z, hz, rfl, hb⟩; refine ⟨_, rfl, hb, ?_⟩; have HS := hide (HS.out.call hb); (try simp only [Act.put, nq1, nq2, nq3, nq4, nq5, nq6])
    refine wpT_callF rfl rfl rfl en47_sq rfl (sameNA _ ‹_› ‹_›) ?_; rintro e wy ⟨rfl, hb⟩; rw [decide_eq_false HX9.out]; refine ⟨_, rfl, hb, ?_⟩; have HS := hide (HS.out.call hb); (try simp only [Act.put, nq1, nq2, nq3, nq4, nq5, nq6])
    (refine wpT_pure (v := ?_) rfl rfl ?_ ?_; rotate_left; (intro wx; go_simp; try go_bits) <;> (with_reducible rfl)); (try simp only [Act.put, nq1, nq2, nq3, nq4, nq5, nq6])
    refine wpT_skip rfl rfl ?_; (try simp only [Act.put, nq1, nq2, nq3, nq4, nq5, nq6])
    refine wpT_skip rfl rfl ?_; (try simp only [Act.put, nq1, nq2, nq3, nq4, nq5, nq6])
    refine wpT_skip rfl rfl ?_; (try simp only [Act.put, nq1, nq2, nq3, nq4, nq5, nq6])
    refine wpT_skip rfl rfl ?_; (try simp only [Act.put, nq1, nq2, nq3, nq4, nq5, nq6])
    refine wpT_skip rfl rfl ?_; (try simp only [Act.put, nq1, nq2, nq3, nq4, nq5, nq6])
    refine wpT_skip rfl rfl ?_; (try simp only [Act.put, nq1, nq2, nq3, nq4, nq5, nq6])
    refine wpT_skip rfl rfl ?_; (try simp only [Act.put, nq1, nq2, nq3, nq4, nq5, nq6])
    refine wpT_skip rfl rfl ?_; (try simp only [Act.put, nq1, nq2, nq3, nq4, nq5, nq6])
    refine wpT_skip rfl rfl ?_; (try simp only [Act.put, nq1, nq2, nq3, nq4, nq5, nq6])
    refine wpT_skip rfl rfl ?_; (try simp only [Act.put, nq1, nq2, nq3, nq4, nq5, nq6])
    refine wpT_skip rfl rfl ?_; (try simp only [Act.put, nq1, nq2, nq3, nq4, nq5, nq6])
    (refine wpT_pure (v := ?_) rfl rfl ?_ ?_; rotate_left; (intro wx; go_simp; try go_bits) <;> (with_reducible rfl)); (try simp only [Act.put, nq1, nq2, nq3, nq4, nq5, nq6])
    (refine wpT_pure (v := ?_) rfl rfl ?_ ?_; rotate_left; (intro wx; go_simp; try go_bits) <;> (with_reducible rfl)); (try simp only [Act.put, nq1, nq2, nq3, nq4, nq5, nq6])
    refine wpT_nil ?_
    go_wp2_with fail
    go_ret
    refine ⟨?_, HS.out.below⟩
    rw [decide_eq_false fun e => HX9.out (HEX.out.2 (by rw [packL_inj e]))]
    rfl
end Go.Proofs.YtgahjjdbpjgemaaDoor

/-
  Layer 4: the page's Unpack.
-/
namespace Go.Proofs.YtgahjjdbpjgemaaDoor
open Go.RowKit
set_option linter.unusedSimpArgs false

theorem u8_and128 (n : Nat) (h : n < 256) : bits .and .u8 (n : Int) 128 = ((n / 128 * 128 : Nat) : Int) := by
  have : ∀ m : Fin 256, bits .and .u8 (m.val : Int) 128 = ((m.val / 128 * 128 : Nat) : Int) := by decide +kernel
  exact this ⟨n, h⟩
section
variable {P : Program} {ops : Array Oper} {Q : Exit → Act → World → Prop} {rest : List Oper} {o : Oper} {a : Act} {w0 w : World} {M : Nat → Prop} {H : List Chunk} {t e : TypeId} {n g off : Nat} {x : Operand} {cs part : Array Value}
/-- The same steps where the operation has a guard that says yes. -/
theorem wl_loadG (hw : Region.wanted o (yielded ops a.tmps) = true) (ho : o.op = .load t x) (hx : a.eval x = .pointer (some ⟨g, off, none⟩)) (hS : St w0 M w H) (hm : Chunk.cells g cs e ∈ H) (hT : RowOf P t n) (hp : PartN n cs part off)
    (h : wpList P ops Q rest (a.put o.dst (.agg part)) w) : wpList P ops Q (o :: rest) a w :=
  wpList_step fun K hK => by
    rw [if_pos hw]
    unfold Oper.wp
    rw [run_load_part ho hT hx (hS.heapM hm) hp]
    exact hK _ _ h
theorem wl_build0G {v : Array Value} (hw : Region.wanted o (yielded ops a.tmps) = true) (ho : o.op = .build t #[]) (hB : P.built t [] = some v) (h : wpList P ops Q rest (a.put o.dst (.agg v)) w) : wpList P ops Q (o :: rest) a w :=
  wpList_step fun K hK => by
    rw [if_pos hw]
    have e : (execOp a.eval o).run P w = .ok (.value (.agg v)) w := by
      have e2 : ((#[] : Array (Nat × Operand)).map fun (i, x) => (i, a.eval x)).toList = [] := by simp
      unfold execOp
      simp only [ho]
      simp only [Sem.run_bind, run_build w t _ _ (by rw [e2]; exact hB), Result.andThen_ok]
      rfl
    unfold Oper.wp
    rw [e]
    exact hK _ _ h
end
def ResG (w : World) (o : Option Ed) (e : Ending) (w' : World) : Prop := ∃ v, QtN v (o.getD .zero) ∧ e = .returned (.tuple #[.agg v, .bool o.isSome]) ∧ Below w.heap.size w w'
theorem fromNA {A : Option Addr} {n c : Nat} {l : List UInt8} (hl : l.length = n) (hn : n ≤ 1000) (w : World) (hr : Rd w (.slice A n c) 1 n (bvs l)) : Calls Tryd.prog 54 #[.slice A n c] w (ResA w (fbytes l)) :=
  (frN_any A n c l w hl hn hr).mono fun _ _ h => by
    obtain ⟨xs, h1, h2, h3⟩ := h
    exact ⟨_, ⟨xs, rfl, h1⟩, h2, h3⟩
set_option maxRecDepth 100000 in
set_option maxHeartbeats 1600000 in
theorem unpack_no {A : Option Addr} {n c : Nat} {l : List UInt8} (w : World) (hl : l.length = n) (hn : n ≠ 32) : Calls Tryd.prog 25 #[.slice A n c] w (ResG w (pageL l)) := by
  have hF : pageL l = none := by unfold pageL; rw [if_neg (by omega)]
  have q0 : ((n : Int) != 32) = true := by simp; omega
  have HS := hide (St.init w NoB)
  rw [hF]
  clear hF hl hn
  go_enter Tryd.func25, Tryd.ntmps25
  go_wp2_with (first | (go_at_call 32; (with_reducible refine (zeroQ _).mono ?_); rintro e wy ⟨z0, hz0, rfl, hb⟩; have HS := hide (HS.out.call hb)) | (refine wl_loadP rfl rfl rfl HS.out (by (repeat first | exact .head _ | apply List.Mem.tail)) (by first | exact rowE | exact rowP | exact rowN | exact rowQ) (by (first | exact .q0 (EA.arr ‹_›) | exact .q1 (EA.arr ‹_›) (EA.arr ‹_›) | exact .q2 (EA.arr ‹_›) (EA.arr ‹_›) (EA.arr ‹_›) | exact .q3 (EA.arr ‹_›) (EA.arr ‹_›) (EA.arr ‹_›) (EA.arr ‹_›) | exact .q0 (NA.arr ‹_›) | exact .q1 (NA.arr ‹_›) (NA.arr ‹_›) | exact .q2 (NA.arr ‹_›) (NA.arr ‹_›) (NA.arr ‹_›) | exact .q3 (NA.arr ‹_›) (NA.arr ‹_›) (NA.arr ‹_›) (NA.arr ‹_›) | exact .all (by (first | exact EA.arr ‹_› | exact NA.arr ‹_› | exact arr_zE | exact arr_zN | exact arr_zP | exact arr_zQ | exact PtN.arr ‹_› | exact PtV.arr ‹_› | exact QtN.arr ‹_› | exact qE ‹_› ‹_› ‹_› ‹_› | exact qN ‹_› ‹_› ‹_› ‹_›)))) ?_; (try simp only [Act.put, nq1, nq2, nq3, nq4, nq5, nq6])) | (refine wl_storeR rfl rfl rfl rfl HS.out (by first | exact rowE | exact rowP | exact rowN | exact rowQ) (by (repeat first | exact .head | apply Upd.tail)) (by (first | exact EA.arr ‹_› | exact NA.arr ‹_› | exact arr_zE | exact arr_zN | exact arr_zP | exact arr_zQ | exact PtN.arr ‹_› | exact PtV.arr ‹_› | exact QtN.arr ‹_› | exact qE ‹_› ‹_› ‹_› ‹_› | exact qN ‹_› ‹_› ‹_› ‹_›)) (by (first | exact EA.arr ‹_› | exact NA.arr ‹_› | exact arr_zE | exact arr_zN | exact arr_zP | exact arr_zQ | exact PtN.arr ‹_› | exact PtV.arr ‹_› | exact QtN.arr ‹_› | exact qE ‹_› ‹_› ‹_› ‹_› | exact qN ‹_› ‹_› ‹_› ‹_›)) ?_; intro wz hS9; have HS := hide hS9; clear hS9; (try simp only [Act.put, nq1, nq2, nq3, nq4, nq5, nq6])) | (refine wl_allocR rfl rfl HS.out (by first | exact newE | exact newP | exact newN | exact newQ) ?_; intro gz wz hS9; have HS := hide hS9; clear hS9; (try simp only [Act.put, nq1, nq2, nq3, nq4, nq5, nq6])) | (refine wl_boxR rfl rfl rfl HS.out ?_; intro gz wz hS9; have HS := hide hS9; clear hS9; (try simp only [Act.put, nq1, nq2, nq3, nq4, nq5, nq6])))
  refine bodyPost_ret (results_cell_tmp_row rfl _ _ _ _ _ _ _ rfl (HS.out.heapM (by (repeat first | exact .head _ | apply List.Mem.tail))) Tryd.underlying36 rfl (by first | (rw [(EA.arr ‹_›).size]; kernel_rfl) | (rw [(NA.arr ‹_›).size]; kernel_rfl) | (rw [(qE ‹_› ‹_› ‹_› ‹_›).size]; kernel_rfl) | (rw [(qN ‹_› ‹_› ‹_› ‹_›).size]; kernel_rfl) | (rw [(PtN.arr ‹_›).size]; kernel_rfl) | (rw [(PtV.arr ‹_›).size]; kernel_rfl) | (rw [(QtN.arr ‹_›).size]; kernel_rfl))) rfl ?_
  exact ⟨_, hz0, rfl, HS.out.below⟩
theorem en33_up (args : Array Value) (w : World) : (callFunc 33 args).run Tryd.prog w = .ok (.enter 33 args) w := by kernel_rfl
theorem en34_up (args : Array Value) (w : World) : (callFunc 34 args).run Tryd.prog w = .ok (.enter 34 args) w := by kernel_rfl
theorem en40_up (args : Array Value) (w : World) : (callFunc 40 args).run Tryd.prog w = .ok (.enter 40 args) w := by kernel_rfl
theorem en42_up (args : Array Value) (w : World) : (callFunc 42 args).run Tryd.prog w = .ok (.enter 42 args) w := by kernel_rfl
theorem en43_up (args : Array Value) (w : World) : (callFunc 43 args).run Tryd.prog w = .ok (.enter 43 args) w := by kernel_rfl
theorem en44_up (args : Array Value) (w : World) : (callFunc 44 args).run Tryd.prog w = .ok (.enter 44 args) w := by kernel_rfl
theorem en55_up (args : Array Value) (w : World) : (callFunc 55 args).run Tryd.prog w = .ok (.enter 55 args) w := by kernel_rfl
set_option maxRecDepth 100000 in
set_option maxHeartbeats 6400000 in
theorem unpack_32 {A : Option Addr} {c : Nat} {l : List UInt8} (w : World) (hl : l.length = 32) (hr : Rd w (.slice A 32 c) 1 32 (bvs l)) : Calls Tryd.prog 25 #[.slice A 32 c] w (ResG w (pageL l)) := by
  obtain ⟨zz, hzz, hc⟩ : ∃ v, Tryd.prog.built 34 [] = some v ∧ NA v 0 := ⟨_, build0N, na_0⟩
  have HZZ := hide (And.intro hzz trivial)
  have HS := hide (St.init w NoB)
  obtain ⟨cb, hxb⟩ : ∃ cb, l[31]? = some cb := ⟨l[31], List.getElem?_eq_getElem _⟩
  have gB := bvs_get hxb
  obtain ⟨ch, hch⟩ : ∃ c : Nat, c = cb.toNat := ⟨_, rfl⟩
  have hc8 : ch < 256 := by rw [hch]; exact UInt8.toNat_lt _
  have hlow : lowL l = l.set 31 (UInt8.ofNat (ch % 128)) := by unfold lowL; rw [List.getD_eq_getElem?_getD, hxb, hch]; rfl
  have htop : topB l = decide (128 ≤ ch) := by unfold topB; rw [List.getD_eq_getElem?_getD, hxb, hch]; rfl
  rw [← hch] at gB
  have hand := u8_and127 ch hc8
  have hand2 := u8_and128 ch hc8
  have hm : ch % 128 < 256 := by omega
  obtain ⟨cm, hcm⟩ : ∃ m, m = ch % 128 := ⟨_, rfl⟩
  rw [← hcm] at hand hm hlow
  clear hcm
  obtain ⟨od, hod⟩ : ∃ b, b = topB l := ⟨_, rfl⟩
  obtain ⟨ct, hct⟩ : ∃ m, m = ch / 128 * 128 := ⟨_, rfl⟩
  rw [← hct] at hand2
  have ho0 : od = !decide (ct = 0) := by
    rw [hod, htop]
    by_cases h : 128 ≤ ch
    · rw [decide_eq_true h, decide_eq_false (by omega)]; rfl
    · rw [decide_eq_false h, decide_eq_true (by omega)]; rfl
  have ho4 : decide ((ct : Int) = 0) = decide (ct = 0) := decide_eq_decide.2 (by omega)
  have ho3 : decide ((ct : Int) = 0) = !od := by rw [ho4, ho0, Bool.not_not]
  have ho2 : ((ct : Int) == 0) = !od := ho3
  have ho1 : ((ct : Int) != 0) = od := by rw [bne, ho2, Bool.not_not]
  clear ho0 ho4
  have HR := hide hr
  have GB := hide gB
  have HLOW := hide hlow
  have HOD := hide hod
  have HL := hide hl
  have HM := hide hm
  clear hxb hch gB hlow htop hr hl hm hct hod hzz
  go_enter Tryd.func25, Tryd.ntmps25
  go_upto_region 4 with (first
    | (at_builtin; refine wl_append0 rfl rfl tyB HS.out rfl rfl (HR.out.below HS.out.below) (one_bvs _) (by omega) (by decide) ?_; intro A3 c3 w3 hS3; have HS := hide hS3; clear hS3)
    | (refine wl_loadP rfl rfl rfl HS.out (by (repeat first | exact .head _ | apply List.Mem.tail)) (by first | exact rowE | exact rowP | exact rowN | exact rowQ) (by (first | exact .q0 (EA.arr ‹_›) | exact .q1 (EA.arr ‹_›) (EA.arr ‹_›) | exact .q2 (EA.arr ‹_›) (EA.arr ‹_›) (EA.arr ‹_›) | exact .q3 (EA.arr ‹_›) (EA.arr ‹_›) (EA.arr ‹_›) (EA.arr ‹_›) | exact .q0 (NA.arr ‹_›) | exact .q1 (NA.arr ‹_›) (NA.arr ‹_›) | exact .q2 (NA.arr ‹_›) (NA.arr ‹_›) (NA.arr ‹_›) | exact .q3 (NA.arr ‹_›) (NA.arr ‹_›) (NA.arr ‹_›) (NA.arr ‹_›) | exact .all (by (first | exact EA.arr ‹_› | exact NA.arr ‹_› | exact arr_zE | exact arr_zN | exact arr_zP | exact arr_zQ | exact PtN.arr ‹_› | exact PtV.arr ‹_› | exact QtN.arr ‹_› | exact qE ‹_› ‹_› ‹_› ‹_› | exact qN ‹_› ‹_› ‹_› ‹_›)))) ?_; (try simp only [Act.put, nq1, nq2, nq3, nq4, nq5, nq6])) | (refine wl_storeR rfl rfl rfl rfl HS.out (by first | exact rowE | exact rowP | exact rowN | exact rowQ) (by (repeat first | exact .head | apply Upd.tail)) (by (first | exact EA.arr ‹_› | exact NA.arr ‹_› | exact arr_zE | exact arr_zN | exact arr_zP | exact arr_zQ | exact PtN.arr ‹_› | exact PtV.arr ‹_› | exact QtN.arr ‹_› | exact qE ‹_› ‹_› ‹_› ‹_› | exact qN ‹_› ‹_› ‹_› ‹_›)) (by (first | exact EA.arr ‹_› | exact NA.arr ‹_› | exact arr_zE | exact arr_zN | exact arr_zP | exact arr_zQ | exact PtN.arr ‹_› | exact PtV.arr ‹_› | exact QtN.arr ‹_› | exact qE ‹_› ‹_› ‹_› ‹_› | exact qN ‹_› ‹_› ‹_› ‹_›)) ?_; intro wz hS9; have HS := hide hS9; clear hS9; (try simp only [Act.put, nq1, nq2, nq3, nq4, nq5, nq6])) | (refine wl_allocR rfl rfl HS.out (by first | exact newE | exact newP | exact newN | exact newQ) ?_; intro gz wz hS9; have HS := hide hS9; clear hS9; (try simp only [Act.put, nq1, nq2, nq3, nq4, nq5, nq6])) | (refine wl_boxR rfl rfl rfl HS.out ?_; intro gz wz hS9; have HS := hide hS9; clear hS9; (try simp only [Act.put, nq1, nq2, nq3, nq4, nq5, nq6])))
  obtain ⟨g, c1, hvv, _, _, hcs, hfr, _⟩ := HS.out.rowOpen 0 rfl (by omega)
  injection hvv with hvv1 _ hvv3
  subst hvv1 hvv3
  have k31 := hcs 31 _ GB.out
  have f31 := hfr 31
  clear hcs hfr
  go_upto_region 6 with fail
  have h9 := HS.out.rowSet 0 rfl 31 (.int .u8 (cm : Int)) (by omega)
  simp only [List.set_cons_zero] at h9
  rw [bvs_set _ _ _ HM.out, ← HLOW.out] at h9
  have HS := hide h9
  have hll : (lowL l).length = 32 := by rw [lowL_len]; exact HL.out
  clear h9 k31 f31
  go_upto_region 7 with (first
    | (go_at_call 54; (with_reducible refine (fromNA hll (by decide) _ (HS.out.rd 0 rfl)).mono ?_); rintro e wy ⟨zy, hzy, rfl, hb⟩; have HS := hide (HS.out.call hb))
    | (refine wl_storeR rfl rfl rfl rfl HS.out rowN (.head) (by first | exact NA.arr ‹_› | exact arr_zN) (by first | exact NA.arr ‹_› | exact arr_zN) ?_; intro wz hS9; have HS := hide hS9; clear hS9; (try simp only [Act.put, nq1, nq2, nq3, nq4, nq5, nq6])) | (refine wl_allocR rfl rfl HS.out newN ?_; intro gz wz hS9; have HS := hide hS9; clear hS9; (try simp only [Act.put, nq1, nq2, nq3, nq4, nq5, nq6])))
  have HS := hide HS.out.drew
  refine wp_region_T [(0, 0), (3, 1), (4, 0), (1, 2), (2, 0), (5, 1)] (by kernel_rfl) (by kernel_rfl) (fun _ _ _ _ h => h) ?_
  generalize wz.drew = wd at HS ⊢
  have cvc : ∀ x, From wd x → (convert 22 9 (.slice (some ⟨g, 0, none⟩) 32 c3)).run Tryd.prog x = .ok (.string (strOf (lowL l))) x := fun x hx => run_str Tryd.underlying22 Tryd.underlying5 Tryd.underlying9 ((HS.out.rd 1 rfl).below hx)
  refine wpT_loadP rfl rfl rfl rfl HS.out (.head _) rowN (.all (by (first | exact EA.arr ‹_› | exact NA.arr ‹_› | exact arr_zE | exact arr_zN | exact arr_zP | exact arr_zQ | exact PtN.arr ‹_› | exact PtV.arr ‹_› | exact QtN.arr ‹_› | exact qE ‹_› ‹_› ‹_› ‹_› | exact qN ‹_› ‹_› ‹_› ‹_›))) ?_; (try simp only [Act.put, nq1, nq2, nq3, nq4, nq5, nq6])
  (refine wpT_pure (v := ?_) rfl rfl ?_ ?_; rotate_left; (intro wx; go_simp; try go_bits) <;> (with_reducible rfl)); (try simp only [Act.put, nq1, nq2, nq3, nq4, nq5, nq6])
  (refine wpT_read (v := ?_) rfl rfl ?_ ?_; rotate_left; (intro wx hx; go_simp; try go_bits) <;> (with_reducible rfl)); (try simp only [Act.put, nq1, nq2, nq3, nq4, nq5, nq6])
  refine wpT_callF rfl rfl rfl en40_up rfl (bytesNA _ hzy) ?_; rintro e wy ⟨B2, d2, rfl, hb, ho⟩; rw [leB_len] at ho ⊢; refine ⟨_, rfl, hb, ?_⟩; have HS := hide (HS.out.row hb ho); clear ho; (try simp only [Act.put, nq1, nq2, nq3, nq4, nq5, nq6])
  have cv2 : ∀ x, From wy x → (convert 22 9 (.slice B2 32 d2)).run Tryd.prog x = .ok (.string (strOf (leB 32 (fbytes (lowL l)).val))) x := fun x hx => run_str Tryd.underlying22 Tryd.underlying5 Tryd.underlying9 ((HS.out.rd 0 rfl).below hx)
  (refine wpT_read (v := ?_) rfl rfl ?_ ?_; rotate_left; (intro wx hx; go_simp; try go_bits) <;> (with_reducible rfl)); (try simp only [Act.put, nq1, nq2, nq3, nq4, nq5, nq6])
  by_cases hcan : leB 32 (fbytes (lowL l)).val = lowL l
  · have qc1 : (leB 32 (fbytes (lowL l)).val == lowL l) = true := by rw [hcan]; exact beq_self_eq_true _
    have qc2 : (leB 32 (fbytes (lowL l)).val != lowL l) = false := by rw [bne, qc1]; rfl
    have HCAN := hide hcan
    clear hcan
    (refine wpT_pure (v := ?_) rfl rfl ?_ ?_; rotate_left; (intro wx; go_simp; try go_bits) <;> (with_reducible rfl)); (try simp only [Act.put, nq1, nq2, nq3, nq4, nq5, nq6])
    refine wpT_nil ?_
    clear qc1 qc2 cvc cv2
    go_upto_region 10 with (first
      | (go_at_call 34; (with_reducible refine (mulNA _ hzy hzy).mono ?_); rintro e wy ⟨zs, hzs, rfl, hb⟩; have HS := hide (HS.out.call hb))
      | (refine wl_loadP rfl rfl rfl HS.out (.tail _ (.head _)) rowN (.all (by first | exact NA.arr ‹_› | exact arr_zN)) ?_; (try simp only [Act.put, nq1, nq2, nq3, nq4, nq5, nq6])) | (refine wl_storeR rfl rfl rfl rfl HS.out rowN (.head) (by first | exact NA.arr ‹_› | exact arr_zN) (by first | exact NA.arr ‹_› | exact arr_zN) ?_; intro wz hS9; have HS := hide hS9; clear hS9; (try simp only [Act.put, nq1, nq2, nq3, nq4, nq5, nq6])) | (refine wl_allocR rfl rfl HS.out newN ?_; intro gz wz hS9; have HS := hide hS9; clear hS9; (try simp only [Act.put, nq1, nq2, nq3, nq4, nq5, nq6])))
    have HS := hide HS.out.drew
    refine wp_region_XE [(12, 8)] [(0, 0), (4, 0), (1, 2), (2, 2), (3, 2), (5, 2), (6, 2), (7, 2), (8, 2), (9, 1), (10, 1), (11, 1)] (.op 13 2 (.op 14 1 (.nil))) zN 34 (by kernel_rfl) (by kernel_rfl) (by kernel_rfl) (by intro p hp; simp only [List.mem_cons, List.not_mem_nil, or_false] at hp; subst hp <;> exact flOp_of rfl rfl rfl (fun ev x => run_allocR rfl newN ev x)) (fun _ _ _ _ h => h) ?_
    refine wpX_loadP rfl rfl rfl rfl HS.out (.head _) rowN (.all (by first | exact NA.arr ‹_› | exact arr_zN)) ?_; (try simp only [Act.put, nq1, nq2, nq3, nq4, nq5, nq6])
    refine wpX_loadP rfl rfl rfl rfl HS.out (.head _) rowN (.all (by first | exact NA.arr ‹_› | exact arr_zN)) ?_; (try simp only [Act.put, nq1, nq2, nq3, nq4, nq5, nq6])
    refine wpX_callF rfl rfl rfl en33_up rfl (fun x => smallNA1 x) ?_; rintro xw e wy ⟨z, hz, rfl, hb⟩; refine ⟨_, rfl, hb, ?_⟩; (try simp only [Act.put, nq1, nq2, nq3, nq4, nq5, nq6])
    refine wpX_callF rfl rfl rfl en42_up rfl (fun x => subNA x ‹_› ‹_›) ?_; rintro xw e wy ⟨z, hz, rfl, hb⟩; refine ⟨_, rfl, hb, ?_⟩; (try simp only [Act.put, nq1, nq2, nq3, nq4, nq5, nq6])
    refine wpX_callF rfl rfl rfl en44_up rfl (fun x => dNA x) ?_; rintro xw e wy ⟨z, hz, rfl, hb⟩; refine ⟨_, rfl, hb, ?_⟩; (try simp only [Act.put, nq1, nq2, nq3, nq4, nq5, nq6])
    refine wpX_callF rfl rfl rfl en34_up rfl (fun x => mulNA x ‹_› ‹_›) ?_; rintro xw e wy ⟨z, hz, rfl, hb⟩; refine ⟨_, rfl, hb, ?_⟩; (try simp only [Act.put, nq1, nq2, nq3, nq4, nq5, nq6])
    refine wpX_callF rfl rfl rfl en33_up rfl (fun x => smallNA1 x) ?_; rintro xw e wy ⟨z, hz, rfl, hb⟩; refine ⟨_, rfl, hb, ?_⟩; (try simp only [Act.put, nq1, nq2, nq3, nq4, nq5, nq6])
    refine wpX_callF rfl rfl rfl en43_up rfl (fun x => addNA x ‹_› ‹_›) ?_; rintro xw e wy ⟨z, hz, rfl, hb⟩; refine ⟨_, rfl, hb, ?_⟩; (try simp only [Act.put, nq1, nq2, nq3, nq4, nq5, nq6])
    refine wpX_callF rfl rfl rfl en55_up rfl (fun x => rootN_any x (by assumption) (by assumption)) ?_; rintro xw e wy ⟨z, hz, rfl, hb⟩; refine ⟨_, rfl, hb, ?_⟩; (try simp only [Act.put, nq1, nq2, nq3, nq4, nq5, nq6])
    (refine wpX_pure (v := ?_) rfl rfl ?_ ?_; rotate_left; (intro wx; go_simp; try go_bits) <;> (with_reducible rfl)); (try simp only [Act.put, nq1, nq2, nq3, nq4, nq5, nq6])
    (refine wpX_pure (v := ?_) rfl rfl ?_ ?_; rotate_left; (intro wx; go_simp; try go_bits) <;> (with_reducible rfl)); (try simp only [Act.put, nq1, nq2, nq3, nq4, nq5, nq6])
    (refine wpX_pure (v := ?_) rfl rfl ?_ ?_; rotate_left; (intro wx; go_simp; try go_bits) <;> (with_reducible rfl)); (try simp only [Act.put, nq1, nq2, nq3, nq4, nq5, nq6])
    refine wpX_nil ?_; intro G xz hx0 hx hF; have hS9 := HS.out.floats hx0 hF _ (by decide) (fun _ h => h); simp only [List.map_cons, List.map_nil, List.cons_append, List.nil_append] at hS9; have HS := hide hS9; have HX := hide hx0; have HG := hide hF.at_; clear hS9 hF hx0 hx; simp only [putsE, List.foldl_cons, List.foldl_nil]; (try simp only [Act.put, nq1, nq2, nq3, nq4, nq5, nq6])
    refine wpS_storeF rfl rfl rfl rfl rfl HS.out HX.out (HG.out 12 (by simp)).1 rowN (.head) (by first | exact NA.arr ‹_› | exact arr_zN) (by first | exact NA.arr ‹_› | exact arr_zN) ?_; intro wz hS9 hX9; have HS := hide hS9; have HX := hide hX9; clear hS9 hX9; (try simp only [Act.put, nq1, nq2, nq3, nq4, nq5, nq6])
    (refine wpS_pure (v := ?_) rfl rfl ?_ ?_; rotate_left; (intro wx; go_simp; try go_bits) <;> (with_reducible rfl)); (try simp only [Act.put, nq1, nq2, nq3, nq4, nq5, nq6])
    refine wpS_nil ?_
    have hcm : dF * (fbytes (lowL l) * fbytes (lowL l)) = fbytes (lowL l) * fbytes (lowL l) * dF := fl2 _ _
    rw [hcm] at hz ⊢
    cases hrt : rtF (fbytes (lowL l) * fbytes (lowL l) - 1) (fbytes (lowL l) * fbytes (lowL l) * dF + 1) with
    | none =>
      have hF : pageL l = none := by unfold pageL; rw [if_pos HL.out, if_pos HCAN.out, unp_none hrt]
      simp only [Option.isSome_none]
      have HFK := hide hF
      clear hrt hF
      go_wp2_with (first | (go_at_call 32; (with_reducible refine (zeroQ _).mono ?_); rintro e wy ⟨z0, hz0, rfl, hb⟩; have HS := hide (HS.out.call hb)) | (refine wl_storeR rfl rfl rfl rfl HS.out rowQ (.tail (.tail (.tail (.tail (.tail (.head)))))) (by first | exact arr_zQ | exact QtN.arr ‹_› | exact qN ‹_› ‹_› ‹_› ‹_›) (by first | exact arr_zQ | exact QtN.arr ‹_› | exact qN ‹_› ‹_› ‹_› ‹_›) ?_; intro wz hS9; have HS := hide hS9; clear hS9; (try simp only [Act.put, nq1, nq2, nq3, nq4, nq5, nq6])) | (refine wl_build0 rfl rfl (HZZ.out).1 ?_; (try simp only [Act.put, nq1, nq2, nq3, nq4, nq5, nq6])) | (refine wl_loadG rfl rfl rfl HS.out (.head _) rowN (.all (by first | exact NA.arr ‹_› | exact arr_zN)) ?_; (try simp only [Act.put, nq1, nq2, nq3, nq4, nq5, nq6])))
      refine bodyPost_ret (results_cell_tmp_row rfl _ _ _ _ _ _ _ rfl (HS.out.heapM (by (repeat first | exact .head _ | apply List.Mem.tail))) Tryd.underlying36 rfl (by first | (rw [(EA.arr ‹_›).size]; kernel_rfl) | (rw [(NA.arr ‹_›).size]; kernel_rfl) | (rw [(qE ‹_› ‹_› ‹_› ‹_›).size]; kernel_rfl) | (rw [(qN ‹_› ‹_› ‹_› ‹_›).size]; kernel_rfl) | (rw [(PtN.arr ‹_›).size]; kernel_rfl) | (rw [(PtV.arr ‹_›).size]; kernel_rfl) | (rw [(QtN.arr ‹_›).size]; kernel_rfl))) rfl ?_
      rw [HFK.out]
      exact ⟨_, hz0, rfl, HS.out.below⟩
    | some x =>
      have hx := ‹NA _ ((rtF (fbytes (lowL l) * fbytes (lowL l) - 1) (fbytes (lowL l) * fbytes (lowL l) * dF + 1)).getD 0)›
      rw [hrt, Option.getD_some] at hx
      obtain ⟨P, hP, hPx, hPy⟩ := unp_some (odd := topB l) hrt
      have hF : pageL l = if topB l = true ∧ P.x = 0 then none else some P := by
        unfold pageL
        rw [if_pos HL.out, if_pos HCAN.out, hP]
      simp only [Option.isSome_some]
      rw [← HOD.out] at hF hPx
      have hpt := fun (a b c d : Array Value) (ha : NA a P.x) (hb : NA b P.y) (hc : NA c 1) (hd : NA d (P.x * P.y)) => (⟨⟨P.x, P.y, 1, P.x * P.y⟩, a, b, c, d, rfl, ha, hb, hc, hd, rp_of P⟩ : QtN (quad a b c d) P)
      have HPT := hide hpt
      clear hrt hP hpt
      rw [← hPy] at hzy
      have HSM := hide (fun W => sameNA W hx hc)
      cases od with
      | false =>
        have hPx2 : P.x = x := hPx
        have HF := hide (hF.trans (if_neg (fun h => by cases h.1)))
        rw [← hPx2] at hx
        clear hPx hF hPy
        go_upto_region 15 with fail
        have HS := hide HS.out.drew
        refine wp_region_T [(0, 0), (1, 0), (3, 0), (4, 0), (2, 2), (5, 2), (6, 1), (7, 3), (8, 1)] (by kernel_rfl) (by kernel_rfl) (fun _ _ _ _ h => h) ?_
        refine wpT_loadP rfl rfl rfl rfl HS.out (.head _) rowN (.all (by first | exact NA.arr ‹_› | exact arr_zN)) ?_; (try simp only [Act.put, nq1, nq2, nq3, nq4, nq5, nq6])
        refine wpT_loadP rfl rfl rfl rfl HS.out (.tail _ (.tail _ (.tail _ (.head _)))) rowN (.all (by first | exact NA.arr ‹_› | exact arr_zN)) ?_; (try simp only [Act.put, nq1, nq2, nq3, nq4, nq5, nq6])
        refine wpT_loadP rfl rfl rfl rfl HS.out (.head _) rowN (.all (by first | exact NA.arr ‹_› | exact arr_zN)) ?_; (try simp only [Act.put, nq1, nq2, nq3, nq4, nq5, nq6])
        refine wpT_loadP rfl rfl rfl rfl HS.out (.tail _ (.tail _ (.tail _ (.head _)))) rowN (.all (by first | exact NA.arr ‹_› | exact arr_zN)) ?_; (try simp only [Act.put, nq1, nq2, nq3, nq4, nq5, nq6])
        refine wpT_callF rfl rfl rfl en33_up rfl (smallNA1 _) ?_; rintro e wy ⟨z, hz, rfl, hb⟩; refine ⟨_, rfl, hb, ?_⟩; have HS := hide (HS.out.call hb); (try simp only [Act.put, nq1, nq2, nq3, nq4, nq5, nq6])
        refine wpT_callF rfl rfl rfl en34_up rfl (mulNA _ ‹_› ‹_›) ?_; rintro e wy ⟨z, hz, rfl, hb⟩; refine ⟨_, rfl, hb, ?_⟩; have HS := hide (HS.out.call hb); (try simp only [Act.put, nq1, nq2, nq3, nq4, nq5, nq6])
        refine wpT_pure rfl rfl (fun x => run_build4 rfl rfl rfl rfl rfl buildQ (exN ‹_›) (exN ‹_›) (exN ‹_›) (exN ‹_›) x) ?_; (try simp only [Act.put, nq1, nq2, nq3, nq4, nq5, nq6])
        refine wpT_late rfl rfl ?_; intro K hK; refine wp_storeR rfl rfl rfl HS.out rowQ (.tail (.tail (.tail (.tail (.tail (.head)))))) (by first | exact arr_zQ | exact QtN.arr ‹_› | exact qN ‹_› ‹_› ‹_› ‹_›) (by first | exact arr_zQ | exact QtN.arr ‹_› | exact qN ‹_› ‹_› ‹_› ‹_›) ?_; intro wz hS9; have HS := hide hS9; clear hS9; refine hK _ _ ?_; (try simp only [Act.put, nq1, nq2, nq3, nq4, nq5, nq6])
        (refine wpT_pure (v := ?_) rfl rfl ?_ ?_; rotate_left; (intro wx; go_simp; try go_bits) <;> (with_reducible rfl)); (try simp only [Act.put, nq1, nq2, nq3, nq4, nq5, nq6])
        refine wpT_nil ?_
        go_wp2_with fail
        refine bodyPost_ret (results_cell_tmp_row rfl _ _ _ _ _ _ _ rfl (HS.out.heapM (by (repeat first | exact .head _ | apply List.Mem.tail))) Tryd.underlying36 rfl (by first | (rw [(EA.arr ‹_›).size]; kernel_rfl) | (rw [(NA.arr ‹_›).size]; kernel_rfl) | (rw [(qE ‹_› ‹_› ‹_› ‹_›).size]; kernel_rfl) | (rw [(qN ‹_› ‹_› ‹_› ‹_›).size]; kernel_rfl) | (rw [(PtN.arr ‹_›).size]; kernel_rfl) | (rw [(PtV.arr ‹_›).size]; kernel_rfl) | (rw [(QtN.arr ‹_›).size]; kernel_rfl))) rfl ?_
        rw [HF.out]
        exact ⟨_, HPT.out _ _ _ _ (by assumption) (by assumption) (by assumption) (by assumption), rfl, HS.out.below⟩
      | true =>
        have hPx2 : P.x = 0 - x := by rw [zsub]; exact hPx
        by_cases hx0 : x = 0
        · have HF := hide (hF.trans (if_pos ⟨rfl, by rw [hPx2, hx0, zsub, fneg_zero']⟩))
          rw [decide_eq_true hx0] at HSM
          clear hPx hF hPy hx0 hPx2
          go_wp2_with (first | (go_at_call 32; (with_reducible refine (zeroQ _).mono ?_); rintro e wy ⟨z0, hz0, rfl, hb⟩; have HS := hide (HS.out.call hb)) | (refine wl_build0G rfl rfl (HZZ.out).1 ?_; (try simp only [Act.put, nq1, nq2, nq3, nq4, nq5, nq6])) | (go_at_call 47; (with_reducible refine (HSM.out _).mono ?_); rintro e wy ⟨rfl, hb⟩; have HS := hide (HS.out.call hb)) | (refine wl_loadG rfl rfl rfl HS.out (.head _) rowN (.all (by first | exact NA.arr ‹_› | exact arr_zN)) ?_; (try simp only [Act.put, nq1, nq2, nq3, nq4, nq5, nq6])) | (refine wl_storeR rfl rfl rfl rfl HS.out rowQ (.tail (.tail (.tail (.tail (.tail (.head)))))) (by first | exact arr_zQ | exact QtN.arr ‹_› | exact qN ‹_› ‹_› ‹_› ‹_›) (by first | exact arr_zQ | exact QtN.arr ‹_› | exact qN ‹_› ‹_› ‹_› ‹_›) ?_; intro wz hS9; have HS := hide hS9; clear hS9; (try simp only [Act.put, nq1, nq2, nq3, nq4, nq5, nq6])))
          refine bodyPost_ret (results_cell_tmp_row rfl _ _ _ _ _ _ _ rfl (HS.out.heapM (by (repeat first | exact .head _ | apply List.Mem.tail))) Tryd.underlying36 rfl (by first | (rw [(EA.arr ‹_›).size]; kernel_rfl) | (rw [(NA.arr ‹_›).size]; kernel_rfl) | (rw [(qE ‹_› ‹_› ‹_› ‹_›).size]; kernel_rfl) | (rw [(qN ‹_› ‹_› ‹_› ‹_›).size]; kernel_rfl) | (rw [(PtN.arr ‹_›).size]; kernel_rfl) | (rw [(PtV.arr ‹_›).size]; kernel_rfl) | (rw [(QtN.arr ‹_›).size]; kernel_rfl))) rfl ?_
          rw [HF.out]
          exact ⟨_, hz0, rfl, HS.out.below⟩
        · have HF := hide (hF.trans (if_neg (fun h => hx0 (by have := h.2; rw [hPx2] at this; grind))))
          rw [decide_eq_false hx0] at HSM
          have HP2 := hide hPx2
          clear hPx hF hPy hx0 hPx2
          go_upto_region 15 with (first | (go_at_call 42; (with_reducible refine (subNA _ hc hx).mono ?_); rintro e wy ⟨zn, hzn, rfl, hb⟩; have HS := hide (HS.out.call hb)) | (refine wl_build0 rfl rfl (HZZ.out).1 ?_; (try simp only [Act.put, nq1, nq2, nq3, nq4, nq5, nq6])) | (refine wl_build0G rfl rfl (HZZ.out).1 ?_; (try simp only [Act.put, nq1, nq2, nq3, nq4, nq5, nq6])) | (go_at_call 47; (with_reducible refine (HSM.out _).mono ?_); rintro e wy ⟨rfl, hb⟩; have HS := hide (HS.out.call hb)) | (refine wl_loadG rfl rfl rfl HS.out (.head _) rowN (.all (by first | exact NA.arr ‹_› | exact arr_zN)) ?_; (try simp only [Act.put, nq1, nq2, nq3, nq4, nq5, nq6])) | (refine wl_loadP rfl rfl rfl HS.out (.head _) rowN (.all (by first | exact NA.arr ‹_› | exact arr_zN)) ?_; (try simp only [Act.put, nq1, nq2, nq3, nq4, nq5, nq6])) | (refine wl_storeR rfl rfl rfl rfl HS.out rowN (.head) (by first | exact NA.arr ‹_› | exact arr_zN) (by first | exact NA.arr ‹_› | exact arr_zN) ?_; intro wz hS9; have HS := hide hS9; clear hS9; (try simp only [Act.put, nq1, nq2, nq3, nq4, nq5, nq6])))
          rw [← HP2.out] at hzn
          clear hx
          have HS := hide HS.out.drew
          refine wp_region_T [(0, 0), (1, 0), (3, 0), (4, 0), (2, 2), (5, 2), (6, 1), (7, 3), (8, 1)] (by kernel_rfl) (by kernel_rfl) (fun _ _ _ _ h => h) ?_
          refine wpT_loadP rfl rfl rfl rfl HS.out (.head _) rowN (.all (by first | exact NA.arr ‹_› | exact arr_zN)) ?_; (try simp only [Act.put, nq1, nq2, nq3, nq4, nq5, nq6])
          refine wpT_loadP rfl rfl rfl rfl HS.out (.tail _ (.tail _ (.tail _ (.head _)))) rowN (.all (by first | exact NA.arr ‹_› | exact arr_zN)) ?_; (try simp only [Act.put, nq1, nq2, nq3, nq4, nq5, nq6])
          refine wpT_loadP rfl rfl rfl rfl HS.out (.head _) rowN (.all (by first | exact NA.arr ‹_› | exact arr_zN)) ?_; (try simp only [Act.put, nq1, nq2, nq3, nq4, nq5, nq6])
          refine wpT_loadP rfl rfl rfl rfl HS.out (.tail _ (.tail _ (.tail _ (.head _)))) rowN (.all (by first | exact NA.arr ‹_› | exact arr_zN)) ?_; (try simp only [Act.put, nq1, nq2, nq3, nq4, nq5, nq6])
          refine wpT_callF rfl rfl rfl en33_up rfl (smallNA1 _) ?_; rintro e wy ⟨z, hz, rfl, hb⟩; refine ⟨_, rfl, hb, ?_⟩; have HS := hide (HS.out.call hb); (try simp only [Act.put, nq1, nq2, nq3, nq4, nq5, nq6])
          refine wpT_callF rfl rfl rfl en34_up rfl (mulNA _ ‹_› ‹_›) ?_; rintro e wy ⟨z, hz, rfl, hb⟩; refine ⟨_, rfl, hb, ?_⟩; have HS := hide (HS.out.call hb); (try simp only [Act.put, nq1, nq2, nq3, nq4, nq5, nq6])
          refine wpT_pure rfl rfl (fun x => run_build4 rfl rfl rfl rfl rfl buildQ (exN ‹_›) (exN ‹_›) (exN ‹_›) (exN ‹_›) x) ?_; (try simp only [Act.put, nq1, nq2, nq3, nq4, nq5, nq6])
          refine wpT_late rfl rfl ?_; intro K hK; refine wp_storeR rfl rfl rfl HS.out rowQ (.tail (.tail (.tail (.tail (.tail (.head)))))) (by first | exact arr_zQ | exact QtN.arr ‹_› | exact qN ‹_› ‹_› ‹_› ‹_›) (by first | exact arr_zQ | exact QtN.arr ‹_› | exact qN ‹_› ‹_› ‹_› ‹_›) ?_; intro wz hS9; have HS := hide hS9; clear hS9; refine hK _ _ ?_; (try simp only [Act.put, nq1, nq2, nq3, nq4, nq5, nq6])
          (refine wpT_pure (v := ?_) rfl rfl ?_ ?_; rotate_left; (intro wx; go_simp; try go_bits) <;> (with_reducible rfl)); (try simp only [Act.put, nq1, nq2, nq3, nq4, nq5, nq6])
          refine wpT_nil ?_
          go_wp2_with fail
          refine bodyPost_ret (results_cell_tmp_row rfl _ _ _ _ _ _ _ rfl (HS.out.heapM (by (repeat first | exact .head _ | apply List.Mem.tail))) Tryd.underlying36 rfl (by first | (rw [(EA.arr ‹_›).size]; kernel_rfl) | (rw [(NA.arr ‹_›).size]; kernel_rfl) | (rw [(qE ‹_› ‹_› ‹_› ‹_›).size]; kernel_rfl) | (rw [(qN ‹_› ‹_› ‹_› ‹_›).size]; kernel_rfl) | (rw [(PtN.arr ‹_›).size]; kernel_rfl) | (rw [(PtV.arr ‹_›).size]; kernel_rfl) | (rw [(QtN.arr ‹_›).size]; kernel_rfl))) rfl ?_
          rw [HF.out]
          exact ⟨_, HPT.out _ _ _ _ (by assumption) (by assumption) (by assumption) (by assumption), rfl, HS.out.below⟩
  · have qc1 : (leB 32 (fbytes (lowL l)).val == lowL l) = false := by simp [hcan]
    have qc2 : (leB 32 (fbytes (lowL l)).val != lowL l) = true := by rw [bne, qc1]; rfl
    have hF : pageL l = none := by unfold pageL; rw [if_pos HL.out, if_neg hcan]
    have HFK := hide hF
    clear hcan hF
    (refine wpT_pure (v := ?_) rfl rfl ?_ ?_; rotate_left; (intro wx; go_simp; try go_bits) <;> (with_reducible rfl)); (try simp only [Act.put, nq1, nq2, nq3, nq4, nq5, nq6])
    refine wpT_nil ?_
    clear qc1 qc2 cvc cv2
    go_wp2_with (first | (go_at_call 32; (with_reducible refine (zeroQ _).mono ?_); rintro e wy ⟨z0, hz0, rfl, hb⟩; have HS := hide (HS.out.call hb)) | (refine wl_storeR rfl rfl rfl rfl HS.out rowQ (.tail (.tail (.tail (.head)))) (by first | exact arr_zQ | exact QtN.arr ‹_› | exact qN ‹_› ‹_› ‹_› ‹_›) (by first | exact arr_zQ | exact QtN.arr ‹_› | exact qN ‹_› ‹_› ‹_› ‹_›) ?_; intro wz hS9; have HS := hide hS9; clear hS9; (try simp only [Act.put, nq1, nq2, nq3, nq4, nq5, nq6])))
    refine bodyPost_ret (results_cell_tmp_row rfl _ _ _ _ _ _ _ rfl (HS.out.heapM (by (repeat first | exact .head _ | apply List.Mem.tail))) Tryd.underlying36 rfl (by first | (rw [(EA.arr ‹_›).size]; kernel_rfl) | (rw [(NA.arr ‹_›).size]; kernel_rfl) | (rw [(qE ‹_› ‹_› ‹_› ‹_›).size]; kernel_rfl) | (rw [(qN ‹_› ‹_› ‹_› ‹_›).size]; kernel_rfl) | (rw [(PtN.arr ‹_›).size]; kernel_rfl) | (rw [(PtV.arr ‹_›).size]; kernel_rfl) | (rw [(QtN.arr ‹_›).size]; kernel_rfl))) rfl ?_
    rw [HFK.out]
    exact ⟨_, hz0, rfl, HS.out.below⟩
end Go.Proofs.YtgahjjdbpjgemaaDoor

/-
  Layer 4: the page's multiples of a point.
-/
namespace Go.Proofs.YtgahjjdbpjgemaaDoor
open Go.RowKit
set_option linter.unusedSimpArgs false

theorem mulV_far (l : List UInt8) (j : Nat) (h : l.length ≤ j / 8) : mulV l / 2 ^ j = 0 := by
  unfold mulV
  have h1 := bval_lt (l.take 32)
  refine Nat.div_eq_of_lt (Nat.lt_of_lt_of_le h1 ?_)
  rw [show (256 : Nat) = 2 ^ 8 from rfl, ← Nat.pow_mul]
  exact Nat.pow_le_pow_right (by decide) (by rw [List.length_take]; omega)
set_option maxRecDepth 100000 in
set_option maxHeartbeats 6400000 in
theorem timesQ {v : Array Value} {P : Ed} (A : Option Addr) (n c : Nat) (l : List UInt8) (w : World) (hv : QtN v P) (hl : l.length = n) (hn : n ≤ 1000) (hr : Rd w (.slice A n c) 1 n (bvs l)) :
    Calls Tryd.prog 13 #[.agg v, .slice A n c] w (ResQ w (tmE P (mulV l))) := by
  have HM := hide (show mulV l < 2 ^ 256 by
    unfold mulV
    have h1 := bval_lt (l.take 32)
    refine Nat.lt_of_lt_of_le h1 ?_
    rw [show (256 : Nat) = 2 ^ 8 from rfl, ← Nat.pow_mul]
    exact Nat.pow_le_pow_right (by decide) (by rw [List.length_take]; omega))
  have HBIT := hide (fun (j : Nat) (c : UInt8) (hc : l[j / 8]? = some c) (hj : j < 256) => show c.toNat / 2 ^ (j % 8) % 2 = mulV l / 2 ^ j % 2 from by
    have h : (l.take 32)[j / 8]? = some c := by rw [List.getElem?_take_of_lt (by omega)]; exact hc
    have := bval_bit (l.take 32) h (Nat.mod_lt j (by decide))
    rwa [Nat.div_add_mod] at this)
  have HFAR := hide (fun (j : Nat) (h : n ≤ j / 8) => mulV_far l j (by omega))
  have HR := hide hr
  have HL := hide hl
  generalize mulV l = V at *
  have HS := hide (St.init w NoB)
  clear hr hl
  go_enter Tryd.func13, Tryd.ntmps13
  go_wp2_with (first | (go_at_call 32; (with_reducible refine (zeroQ _).mono ?_); rintro e wy ⟨z, hz, rfl, hb⟩; have HS := hide (HS.out.call hb); clear hb) | (have _q := hz; refine wl_allocR rfl rfl HS.out newQ ?_; intro gz wz hS9; have HS := hide hS9; clear hS9; (try simp only [Act.put, nq1, nq2, nq3, nq4, nq5, nq6])) | (refine wl_allocR rfl rfl HS.out newQ ?_; intro gR wz hS9; have HS := hide hS9; clear hS9; (try simp only [Act.put, nq1, nq2, nq3, nq4, nq5, nq6])) | (refine wl_boxR rfl rfl rfl HS.out ?_; intro gP wz hS9; have HS := hide hS9; clear hS9; (try simp only [Act.put, nq1, nq2, nq3, nq4, nq5, nq6])) | (refine wl_loadP rfl rfl rfl HS.out (by (repeat first | exact .head _ | apply List.Mem.tail)) (by first | exact rowE | exact rowP | exact rowN | exact rowQ) (by (first | exact .q0 (EA.arr ‹_›) | exact .q1 (EA.arr ‹_›) (EA.arr ‹_›) | exact .q2 (EA.arr ‹_›) (EA.arr ‹_›) (EA.arr ‹_›) | exact .q3 (EA.arr ‹_›) (EA.arr ‹_›) (EA.arr ‹_›) (EA.arr ‹_›) | exact .q0 (NA.arr ‹_›) | exact .q1 (NA.arr ‹_›) (NA.arr ‹_›) | exact .q2 (NA.arr ‹_›) (NA.arr ‹_›) (NA.arr ‹_›) | exact .q3 (NA.arr ‹_›) (NA.arr ‹_›) (NA.arr ‹_›) (NA.arr ‹_›) | exact .all (by (first | exact EA.arr ‹_› | exact NA.arr ‹_› | exact arr_zE | exact arr_zN | exact arr_zP | exact arr_zQ | exact PtN.arr ‹_› | exact PtV.arr ‹_› | exact QtN.arr ‹_› | exact qE ‹_› ‹_› ‹_› ‹_› | exact qN ‹_› ‹_› ‹_› ‹_›)))) ?_; (try simp only [Act.put, nq1, nq2, nq3, nq4, nq5, nq6])) | (refine wl_storeR rfl rfl rfl rfl HS.out (by first | exact rowE | exact rowP | exact rowN | exact rowQ) (by (repeat first | exact .head | apply Upd.tail)) (by (first | exact EA.arr ‹_› | exact NA.arr ‹_› | exact arr_zE | exact arr_zN | exact arr_zP | exact arr_zQ | exact PtN.arr ‹_› | exact PtV.arr ‹_› | exact QtN.arr ‹_› | exact qE ‹_› ‹_› ‹_› ‹_› | exact qN ‹_› ‹_› ‹_› ‹_›)) (by (first | exact EA.arr ‹_› | exact NA.arr ‹_› | exact arr_zE | exact arr_zN | exact arr_zP | exact arr_zQ | exact PtN.arr ‹_› | exact PtV.arr ‹_› | exact QtN.arr ‹_› | exact qE ‹_› ‹_› ‹_› ‹_› | exact qN ‹_› ‹_› ‹_› ‹_›)) ?_; intro wz hS9; have HS := hide hS9; clear hS9; (try simp only [Act.put, nq1, nq2, nq3, nq4, nq5, nq6])) | (refine wl_allocR rfl rfl HS.out (by first | exact newE | exact newP | exact newN | exact newQ) ?_; intro gz wz hS9; have HS := hide hS9; clear hS9; (try simp only [Act.put, nq1, nq2, nq3, nq4, nq5, nq6])) | (refine wl_boxR rfl rfl rfl HS.out ?_; intro gz wz hS9; have HS := hide hS9; clear hS9; (try simp only [Act.put, nq1, nq2, nq3, nq4, nq5, nq6])))
  go_loopw [6] (fun iv wr => ∃ (j : Nat) (u : Array Value), j ≤ 256 ∧ iv = .int .i64 ((j : Int) - 1) ∧ Hid (QtN u (tmE P (V / 2 ^ j))) ∧ Hid (St w NoB wr [.cells gz u 36, .cells gR zQ 36, .cells gP v 36])) (fun iv _ => (1 + intOf iv).toNat)
  case atStart =>
    refine ⟨256, z, by omega, rfl, hide ?_, HS⟩
    rw [Nat.div_eq_of_lt HM.out]
    exact hz
  case round =>
    clear HS hz
    obtain ⟨j, u, hj, rfl, HU, HS⟩ := hrel
    cases j with
    | zero =>
      have e0 : ((0 : Nat) : Int) - 1 = -1 := by omega
      simp only [e0]
      have hu := HU.out
      go_wp2_with (first | (refine wl_loadP rfl rfl rfl HS.out (by (repeat first | exact .head _ | apply List.Mem.tail)) (by first | exact rowE | exact rowP | exact rowN | exact rowQ) (by (first | exact .q0 (EA.arr ‹_›) | exact .q1 (EA.arr ‹_›) (EA.arr ‹_›) | exact .q2 (EA.arr ‹_›) (EA.arr ‹_›) (EA.arr ‹_›) | exact .q3 (EA.arr ‹_›) (EA.arr ‹_›) (EA.arr ‹_›) (EA.arr ‹_›) | exact .q0 (NA.arr ‹_›) | exact .q1 (NA.arr ‹_›) (NA.arr ‹_›) | exact .q2 (NA.arr ‹_›) (NA.arr ‹_›) (NA.arr ‹_›) | exact .q3 (NA.arr ‹_›) (NA.arr ‹_›) (NA.arr ‹_›) (NA.arr ‹_›) | exact .all (by (first | exact EA.arr ‹_› | exact NA.arr ‹_› | exact arr_zE | exact arr_zN | exact arr_zP | exact arr_zQ | exact PtN.arr ‹_› | exact PtV.arr ‹_› | exact QtN.arr ‹_› | exact qE ‹_› ‹_› ‹_› ‹_› | exact qN ‹_› ‹_› ‹_› ‹_›)))) ?_; (try simp only [Act.put, nq1, nq2, nq3, nq4, nq5, nq6])) | (refine wl_storeR rfl rfl rfl rfl HS.out (by first | exact rowE | exact rowP | exact rowN | exact rowQ) (by (repeat first | exact .head | apply Upd.tail)) (by (first | exact EA.arr ‹_› | exact NA.arr ‹_› | exact arr_zE | exact arr_zN | exact arr_zP | exact arr_zQ | exact PtN.arr ‹_› | exact PtV.arr ‹_› | exact QtN.arr ‹_› | exact qE ‹_› ‹_› ‹_› ‹_› | exact qN ‹_› ‹_› ‹_› ‹_›)) (by (first | exact EA.arr ‹_› | exact NA.arr ‹_› | exact arr_zE | exact arr_zN | exact arr_zP | exact arr_zQ | exact PtN.arr ‹_› | exact PtV.arr ‹_› | exact QtN.arr ‹_› | exact qE ‹_› ‹_› ‹_› ‹_› | exact qN ‹_› ‹_› ‹_› ‹_›)) ?_; intro wz hS9; have HS := hide hS9; clear hS9; (try simp only [Act.put, nq1, nq2, nq3, nq4, nq5, nq6])) | (refine wl_allocR rfl rfl HS.out (by first | exact newE | exact newP | exact newN | exact newQ) ?_; intro gz wz hS9; have HS := hide hS9; clear hS9; (try simp only [Act.put, nq1, nq2, nq3, nq4, nq5, nq6])) | (refine wl_boxR rfl rfl rfl HS.out ?_; intro gz wz hS9; have HS := hide hS9; clear hS9; (try simp only [Act.put, nq1, nq2, nq3, nq4, nq5, nq6])))
      refine bodyPost_ret (results_cell_row rfl _ _ _ _ _ _ _ rfl (HS.out.heapM (by (repeat first | exact .head _ | apply List.Mem.tail))) Tryd.underlying36 rfl (by first | (rw [(EA.arr ‹_›).size]; kernel_rfl) | (rw [(NA.arr ‹_›).size]; kernel_rfl) | (rw [(qE ‹_› ‹_› ‹_› ‹_›).size]; kernel_rfl) | (rw [(qN ‹_› ‹_› ‹_› ‹_›).size]; kernel_rfl) | (rw [(PtN.arr ‹_›).size]; kernel_rfl) | (rw [(PtV.arr ‹_›).size]; kernel_rfl) | (rw [(QtN.arr ‹_›).size]; kernel_rfl))) rfl ?_
      rw [Nat.pow_zero, Nat.div_one] at hu
      exact ⟨_, hu, rfl, HS.out.below⟩
    | succ j =>
      have e1 : (((j + 1 : Nat) : Int) - 1) = (j : Int) := by omega
      simp only [e1]
      have di : decide ((0 : Int) ≤ (j : Int)) = true := by simp
      have j256 : (j : Int) < 256 := by omega
      obtain ⟨q, hq⟩ : ∃ q, q = j / 8 := ⟨_, rfl⟩
      obtain ⟨r, hrr⟩ : ∃ r, r = j % 8 := ⟨_, rfl⟩
      have tq : (j : Int).tdiv 8 = (q : Int) := by rw [Int.tdiv_eq_ediv_of_nonneg (by omega)]; omega
      have tr : (j : Int).tmod 8 = (r : Int) := by rw [Int.tmod_eq_emod_of_nonneg (by omega)]; omega
      have q32 : (q : Int) < 32 := by omega
      have r8 : (r : Int) < 8 := by omega
      have hu := HU.out
      have HSTEP := hide (tmE_bit P V j)
      have HJ := hide hj
      clear e1 hj
      by_cases hqn : q < n
      · have dq : decide ((q : Int) < (n : Int)) = true := by simp; omega
        have qn : (q : Int) < (n : Int) := by omega
        obtain ⟨cb, hxb⟩ : ∃ cb, l[q]? = some cb := ⟨l[q]'(by have := HL.out; omega), List.getElem?_eq_getElem _⟩
        obtain ⟨b, o, rfl, hcb⟩ := rd_at' HR.out (bvs_get hxb)
        have hbl := World.block_lt_of_cell? _ _ hcb
        obtain ⟨ch, hch⟩ : ∃ c : Nat, c = cb.toNat := ⟨_, rfl⟩
        have hbit := HBIT.out j cb (by rw [← hq]; exact hxb) (by omega)
        have hc8 : ch < 256 := by rw [hch]; exact UInt8.toNat_lt _
        rw [← hch] at hcb hbit
        rw [← hrr] at hbit
        have HB := hide (fun W (h : Below w.heap.size w W) => (h.cell (p := ⟨b, o + q, none⟩) hbl).trans hcb)
        obtain ⟨bt, hbt⟩ : ∃ t, t = ch / 2 ^ r % 2 := ⟨_, rfl⟩
        obtain ⟨cs, hcs⟩ : ∃ t, t = ch / 2 ^ r := ⟨_, rfl⟩
        have s1 : (ch : Int) / 2 ^ r = (cs : Int) := by rw [hcs, Int.natCast_ediv, Int.natCast_pow]; rfl
        have cs8' : cs < 256 := by have := Nat.div_le_self ch (2 ^ r); omega
        have cs8 : (cs : Int) < 256 := by omega
        have s2 : bits .and .u8 (cs : Int) 1 = (bt : Int) := by rw [u8_and1 _ cs8', hbt, ← hcs]
        rw [← hbt] at hbit
        rw [← hbit] at HSTEP
        clear hbt hcs hbit cs8' hxb hch hcb hbl hq hrr hqn
        by_cases hb1 : bt = 1
        · subst hb1
          rw [if_pos rfl] at HSTEP
          go_wp2_with (first | (go_at_call 18; (with_reducible refine (plusQ _ hu2 hv).mono ?_); rintro e wy ⟨zhu3, hu3, rfl, hb⟩; have HS := hide (HS.out.call hb); clear hb) | (go_at_call 18; (with_reducible refine (plusQ _ hu hu).mono ?_); rintro e wy ⟨zhu2, hu2, rfl, hb⟩; have HS := hide (HS.out.call hb); clear hb) | (refine wl_storeR rfl rfl rfl rfl HS.out rowQ .head (QtN.arr hu2) (QtN.arr hu3) ?_; intro wz hS9; have HS := hide hS9; have hq9 := HB.out _ hS9.below; clear hS9; (try simp only [Act.put, nq1, nq2, nq3, nq4, nq5, nq6])) | (refine wl_storeR rfl rfl rfl rfl HS.out rowQ .head (QtN.arr hu) (QtN.arr hu2) ?_; intro wz hS9; have HS := hide hS9; have hq9 := HB.out _ hS9.below; clear hS9; (try simp only [Act.put, nq1, nq2, nq3, nq4, nq5, nq6])) | (refine wl_loadP rfl rfl rfl HS.out (.tail _ (.tail _ (.head _))) rowQ (.all (QtN.arr hv)) ?_; (try simp only [Act.put, nq1, nq2, nq3, nq4, nq5, nq6])) | (refine wl_loadP rfl rfl rfl HS.out (.head _) rowQ (.all (QtN.arr hu2)) ?_; (try simp only [Act.put, nq1, nq2, nq3, nq4, nq5, nq6])) | (refine wl_loadP rfl rfl rfl HS.out (.head _) rowQ (.all (QtN.arr hu)) ?_; (try simp only [Act.put, nq1, nq2, nq3, nq4, nq5, nq6])))
          go_roundw
          case rel => exact ⟨j, _, by have := HJ.out; omega, by first | rfl | go_num, hide (by rw [HSTEP.out]; assumption), HS⟩
          case measure => (simp [intOf]) <;> omega
        · have b0 : (((bt : Nat) : Int) == 1) = false := by simp; omega
          have b0' : (bt == 1) = false := by simp; omega
          have b0d : decide (((bt : Nat) : Int) = 1) = false := by simp; omega
          rw [if_neg hb1] at HSTEP
          clear hb1
          go_wp2_with (first | (go_at_call 18; (with_reducible refine (plusQ _ hu hu).mono ?_); rintro e wy ⟨zhu2, hu2, rfl, hb⟩; have HS := hide (HS.out.call hb); clear hb) | (refine wl_storeR rfl rfl rfl rfl HS.out rowQ .head (QtN.arr hu) (QtN.arr hu2) ?_; intro wz hS9; have HS := hide hS9; have hq9 := HB.out _ hS9.below; clear hS9; (try simp only [Act.put, nq1, nq2, nq3, nq4, nq5, nq6])) | (refine wl_loadP rfl rfl rfl HS.out (.head _) rowQ (.all (QtN.arr hu2)) ?_; (try simp only [Act.put, nq1, nq2, nq3, nq4, nq5, nq6])) | (refine wl_loadP rfl rfl rfl HS.out (.head _) rowQ (.all (QtN.arr hu)) ?_; (try simp only [Act.put, nq1, nq2, nq3, nq4, nq5, nq6])))
          go_roundw
          case rel => exact ⟨j, _, by have := HJ.out; omega, by first | rfl | go_num, hide (by rw [HSTEP.out]; assumption), HS⟩
          case measure => (simp [intOf]) <;> omega
      · have dq : decide ((q : Int) < (n : Int)) = false := by simp; omega
        have dq2 : decide (q < n) = false := by simp; omega
        have nq : ¬ (q : Int) < (n : Int) := by omega
        have hfar := HFAR.out j (by omega)
        have HSTEP := hide (HSTEP.out.trans (if_neg (by rw [hfar]; decide)))
        clear hq hrr hqn hfar
        go_wp2_with (first | (go_at_call 18; (with_reducible refine (plusQ _ hu hu).mono ?_); rintro e wy ⟨zhu2, hu2, rfl, hb⟩; have HS := hide (HS.out.call hb); clear hb) | (refine wl_storeR rfl rfl rfl rfl HS.out rowQ .head (QtN.arr hu) (QtN.arr hu2) ?_; intro wz hS9; have HS := hide hS9; clear hS9; (try simp only [Act.put, nq1, nq2, nq3, nq4, nq5, nq6])) | (refine wl_loadP rfl rfl rfl HS.out (.head _) rowQ (.all (QtN.arr hu2)) ?_; (try simp only [Act.put, nq1, nq2, nq3, nq4, nq5, nq6])) | (refine wl_loadP rfl rfl rfl HS.out (.head _) rowQ (.all (QtN.arr hu)) ?_; (try simp only [Act.put, nq1, nq2, nq3, nq4, nq5, nq6])))
        go_roundw
        case rel => exact ⟨j, _, by have := HJ.out; omega, by first | rfl | go_num, hide (by rw [HSTEP.out]; assumption), HS⟩
        case measure => (simp [intOf]) <;> omega
end Go.Proofs.YtgahjjdbpjgemaaDoor

/-
  Layer 4: what its laws share: small, awake; From and Unpack whole.
-/
namespace Go.Proofs.YtgahjjdbpjgemaaDoor
open Go.RowKit
set_option linter.unusedSimpArgs false

theorem from_any {A : Option Addr} {n c : Nat} {l : List UInt8} (w : World) (hl : l.length = n) (hr : Rd w (.slice A n c) 1 n (bvs l)) : Calls Tryd.prog 24 #[.slice A n c] w (ResF w (fromL l)) := by
  by_cases h : n = 32
  · subst h
    exact from_32 w hl hr
  · exact from_no w hl h
theorem unpack_any {A : Option Addr} {n c : Nat} {l : List UInt8} (w : World) (hl : l.length = n) (hr : Rd w (.slice A n c) 1 n (bvs l)) : Calls Tryd.prog 25 #[.slice A n c] w (ResG w (fromL l)) := by
  rw [from_page]
  by_cases h : n = 32
  · subst h
    exact unpack_32 w hl hr
  · exact unpack_no w hl h
theorem packQ32 {v : Array Value} {P : Ed} (w : World) (hv : QtN v P) : Calls Tryd.prog 16 #[.agg v] w fun e w' => ∃ A c, e = .returned (.slice A 32 c) ∧ Below w.heap.size w w' ∧ w'.ownsRow w.heap.size 5 1 (.slice A 32 c) 32 (bvs (packL P)) :=
  (packQ w hv).mono fun e w' h => by
    unfold ResB at h
    rw [packL_len] at h
    exact h
/-! small: a number's two low bytes. -/
def smL (n : Int) : List UInt8 := [UInt8.ofNat (n % 256).toNat, UInt8.ofNat (n / 256 % 256).toNat]
theorem smL_len (n : Int) : (smL n).length = 2 := rfl
theorem smL_val (n : Int) : mulV (smL n) = (n % 65536).toNat := by
  show (UInt8.ofNat (n % 256).toNat).toNat + 256 * ((UInt8.ofNat (n / 256 % 256).toNat).toNat + 256 * 0) = _
  rw [UInt8.toNat_ofNat', UInt8.toNat_ofNat']
  omega
theorem bvs_sm (n : Int) : bvs (smL n) = [.int .u8 (n % 256), .int .u8 (n / 256 % 256)] := by
  show [Value.int .u8 ((UInt8.ofNat (n % 256).toNat).toNat : Int), Value.int .u8 ((UInt8.ofNat (n / 256 % 256).toNat).toNat : Int)] = _
  rw [UInt8.toNat_ofNat', UInt8.toNat_ofNat']
  congr 2
  · omega
  · congr 1
    omega
set_option maxRecDepth 100000 in
set_option maxHeartbeats 800000 in
theorem small_any (n : Int) (w : World) (hn : I64 n) : Calls Tryd.prog 12 #[.int .i64 n] w fun e w' => ∃ g, e = .returned (.slice (some ⟨g, 0, none⟩) 2 2) ∧ Below w.heap.size w w' ∧ Rd w' (.slice (some ⟨g, 0, none⟩) 2 2) 1 2 (bvs (smL n)) := by
  have hb := bvs_sm n
  have w1 : IntKind.u8.wrap n = n % 256 := by rw [IntKind.wrap_u8]
  have w2 : IntKind.u8.wrap (n / 256) = n / 256 % 256 := by rw [IntKind.wrap_u8]
  have w3 : IntKind.u8.wrap (n / 2 ^ 8) = n / 256 % 256 := by rw [IntKind.wrap_u8]; rfl
  have HB := hide hb
  clear hb hn
  go_enter Tryd.func12, Tryd.ntmps12
  go_wp2_with fail
  go_ret
  refine ⟨_, rfl, (Below.refl _ _).alloc (Nat.le_refl _) _, ?_⟩
  rw [HB.out]
  exact rd_new w [.int .u8 (n % 256), .int .u8 (n / 256 % 256)] 5 1 2 rfl (by decide)
/-! awake: the base's bytes and Zero's. -/
theorem pack_base : packL Bp = 88 :: List.replicate 31 102 := by
  unfold packL packN
  decide +kernel
theorem pack_zero : packL .zero = 1 :: List.replicate 31 0 := by
  unfold packL packN
  decide +kernel
set_option maxRecDepth 100000 in
set_option maxHeartbeats 1600000 in
theorem awake4_any (w : World) : Calls Tryd.prog 9 #[] w fun e w' => e = .returned (.bool true) ∧ Below w.heap.size w w' := by
  have HS := hide (St.init w NoB)
  have G0 := hide (show (bvs (packL Bp))[0]? = some (.int .u8 88) by rw [pack_base]; rfl)
  have G1 := hide (show (bvs (packL Bp))[1]? = some (.int .u8 102) by rw [pack_base]; rfl)
  have G31 := hide (show (bvs (packL Bp))[31]? = some (.int .u8 102) by rw [pack_base]; rfl)
  have GZ := hide (show (bvs (packL .zero))[0]? = some (.int .u8 1) by rw [pack_zero]; rfl)
  go_enter Tryd.func9, Tryd.ntmps9
  go_wp2_with (first
    | (go_at_call 10; (with_reducible refine (baseP _).mono ?_); rintro e wy ⟨z, hz, rfl, hb⟩; have HS := hide (HS.out.call hb))
    | (have _q := hz; go_at_call 23; (with_reducible refine (zeroP _).mono ?_); rintro e wy ⟨z0, hz0, rfl, hb⟩; have HS := hide (HS.out.call hb))
    | (go_at_call 15; (with_reducible refine (bytesP32 _ hz0.v).mono ?_); rintro e wy ⟨B2, d2, rfl, hb, ho⟩; have HS := hide (HS.out.row hb ho); obtain ⟨g2, c2, hvv, _, _, hcs, hfr, _⟩ := HS.out.rowOpen 0 rfl (by omega); injection hvv with hvv1 _ hvv3; subst hvv1 hvv3; have kz := hcs 0 _ GZ.out; clear ho hcs hfr)
    | (go_at_call 15; (with_reducible refine (bytesP32 _ hz.v).mono ?_); rintro e wy ⟨B, d, rfl, hb, ho⟩; have HS := hide (HS.out.row hb ho); obtain ⟨g, c1, hvv, _, _, hcs, hfr, _⟩ := HS.out.rowOpen 0 rfl (by omega); injection hvv with hvv1 _ hvv3; subst hvv1 hvv3; have k0 := hcs 0 _ G0.out; have k1 := hcs 1 _ G1.out; have k31 := hcs 31 _ G31.out; clear ho hcs hfr))
  go_ret
  exact ⟨rfl, HS.out.below⟩
end Go.Proofs.YtgahjjdbpjgemaaDoor

/-
  Layer 4, plain laws of its statements: which points are told apart; the point of order two; bytes with the other sign; numbers out of bytes.
-/
namespace Go.Proofs.YtgahjjdbpjgemaaDoor
open Go.RowKit
set_option linter.unusedSimpArgs false

theorem dec_t {P Q : Ed} (h : P = Q) : decide (packL P = packL Q) = true := decide_eq_true (by rw [h])
theorem dec_f {P Q : Ed} (h : P ≠ Q) : decide (packL P = packL Q) = false := decide_eq_false fun e => h (packL_inj e)
theorem self_neg {P : Ed} (h : P.x = 0) : P.neg = P := Ed.eq (by show -P.x = P.x; rw [h, fneg_zero']) rfl
theorem self_two {P : Ed} (h : P.x = 0) : P.add P = .zero := by
  have := ed_neg P
  rwa [self_neg h] at this
theorem tm_twice (P : Ed) : tmE P 2 = P.add P := by rw [show 2 = 1 + 1 from rfl, tmE_add, tmE_one]
theorem tm_not {m : Nat} (h0 : 0 < m) (hm : m < Lq) : tmE Bp m ≠ .zero := fun h => by
  have := Nat.le_of_dvd h0 ((order_iff m).1 h)
  omega
theorem lq_big : 1000000 < Lq := by unfold Lq; decide
theorem tm_x {m : Nat} (h0 : 0 < m) (hm : m < 65536) : (tmE Bp m).x ≠ 0 := fun h => by
  have h1 := self_two h
  rw [← tmE_add] at h1
  exact tm_not (by omega) (by have := lq_big; omega) h1
/-! The point of order two. -/
theorem on_two : On 0 (-1) := by
  have h := on_zero
  unfold On at h ⊢
  grind
def T2 : Ed := ⟨0, -1, on_two⟩
theorem t2_add : T2.add T2 = .zero := self_two rfl
theorem t2_ne : T2 ≠ .zero := fun h => by
  have h1 : (-1 : FK) = 1 := congrArg Ed.y h
  have h2 : ((-1 : FK)).val = (1 : FK).val := congrArg Fin.val h1
  revert h2
  decide +kernel
theorem t2_eight : tmE T2 8 = .zero := by
  rw [show 8 = 2 * 4 from rfl, tmE_mul, tm_twice, t2_add, tmE_zero]
theorem tm_sum (P Q : Ed) : ∀ n, tmE (P.add Q) n = (tmE P n).add (tmE Q n)
  | 0 => by show Ed.zero = Ed.zero.add Ed.zero; rw [ed_zero]
  | n + 1 => by
    show (tmE (P.add Q) n).add (P.add Q) = ((tmE P n).add P).add ((tmE Q n).add Q)
    rw [tm_sum P Q n, ed_assoc, ed_assoc]
    congr 1
    rw [← ed_assoc, ← ed_assoc, ed_comm (tmE Q n) P]
theorem sum_two (P : Ed) : tmE (P.add T2) 8 = tmE P 8 := by rw [tm_sum, t2_eight, ed_zero]
def twoL : List UInt8 := 236 :: (List.replicate 30 255 ++ [127])
theorem pack_two : packL T2 = twoL := by
  unfold packL packN
  decide +kernel
theorem from_two : fromL twoL = some T2 := by rw [← pack_two]; exact from_pack _
theorem tm_eight (P : Ed) : tmE P 8 = ((P.add P).add (P.add P)).add ((P.add P).add (P.add P)) := by
  have h2 := tm_twice P
  have h4 : (P.add P).add (P.add P) = tmE P 4 := by rw [← h2]; exact (tmE_add P 2 2).symm
  rw [h4]
  exact tmE_add P 4 4
/-! Small multiples of the base. -/
theorem small_iff {m : Nat} (hm : m < 65536) : tmE (tmE Bp m) 8 = .zero ↔ m = 0 := by
  rw [← tmE_mul]
  constructor
  · intro h
    rcases Nat.eq_zero_or_pos m with h0 | h0
    · exact h0
    · exact absurd h (tm_not (by omega) (by have := lq_big; omega))
  · intro h
    rw [h]
    rfl
theorem small_dec {m : Nat} (hm : m < 65536) : decide (packL (tmE (tmE Bp m) 8) = packL .zero) = decide (m = 0) := by
  by_cases h : m = 0
  · rw [decide_eq_true h, dec_t ((small_iff hm).2 h)]
  · rw [decide_eq_false h, dec_f fun e => h ((small_iff hm).1 e)]
theorem base_small : decide (packL (tmE Bp 8) = packL .zero) = false := dec_f (tm_not (by decide) (by have := lq_big; omega))
/-! Bytes with the other sign. -/
def xb (c : Nat) : Nat := if c < 128 then c + 128 else c - 128
theorem xb_lt {c : Nat} (h : c < 256) : xb c < 256 := by unfold xb; split <;> omega
theorem u8_xor128 (n : Nat) (h : n < 256) : bits .xor .u8 (n : Int) 128 = ((xb n : Nat) : Int) := by
  have : ∀ m : Fin 256, bits .xor .u8 (m.val : Int) 128 = ((xb m.val : Nat) : Int) := by decide +kernel
  exact this ⟨n, h⟩
/-- The number of a point's bytes with the other sign. -/
def flipN (P : Ed) : Nat := P.y.val + (if P.x.val % 2 = 1 then 0 else 2 ^ 255)
theorem flip_pack (P : Ed) : ∃ c : Nat, c < 256 ∧ (packL P)[31]? = some (UInt8.ofNat c) ∧ (packL P).set 31 (UInt8.ofNat (xb c)) = leB 32 (flipN P) := by
  obtain ⟨l, r, h1, h2, e1, e2⟩ := top_bit P.y.val (Nat.lt_trans P.y.isLt pq_255)
  unfold packL packN flipN
  by_cases h : P.x.val % 2 = 1
  · have e3 : leB 32 (P.y.val + 0) = _ := e1
    rw [if_pos h, if_pos h, e2, e3]
    refine ⟨r + 128, by omega, ?_, ?_⟩
    · rw [List.getElem?_append_right (by omega), h1]; rfl
    · rw [List.set_append_right _ _ (by omega), h1]
      unfold xb
      rw [if_neg (by omega), Nat.add_sub_cancel]
      rfl
  · have e3 : leB 32 (P.y.val + 0) = _ := e1
    rw [if_neg h, if_neg h, e2, e3]
    refine ⟨r, by omega, ?_, ?_⟩
    · rw [List.getElem?_append_right (by omega), h1]; rfl
    · rw [List.set_append_right _ _ (by omega), h1]
      unfold xb
      rw [if_pos h2]
      rfl
theorem flip_neg {P : Ed} (h : P.x ≠ 0) : leB 32 (flipN P) = packL P.neg := by
  unfold packL packN flipN
  have := fneg_par P.x h
  congr 1
  show P.y.val + _ = P.y.val + (if (-P.x).val % 2 = 1 then _ else _)
  congr 1
  split
  · rw [if_neg (by omega)]
  · rw [if_pos (by omega)]
theorem from_ok {l : List UInt8} {P : Ed} (h : fromL l = some P) : packL P = l := by
  unfold fromL at h
  split at h
  · split at h
    · cases h
    · split at h
      · rename_i hk
        injection h with h
        rw [← h]
        exact hk
      · cases h
  · cases h
theorem from_len {l : List UInt8} {P : Ed} (h : fromL l = some P) : l.length = 32 := by rw [← from_ok h, packL_len]
theorem from_flip {P : Ed} (h : P.x = 0) : fromL (leB 32 (flipN P)) = none := by
  cases hf : fromL (leB 32 (flipN P)) with
  | none => rfl
  | some Q =>
    have h1 := from_ok hf
    have hlt : flipN P < 256 ^ 32 := by
      unfold flipN
      have := P.y.isLt
      have hp := pq_255
      rw [show (256 : Nat) ^ 32 = 2 * 2 ^ 255 from by decide]
      generalize (2 : Nat) ^ 255 = B at *
      split <;> omega
    have h2 : packN Q = flipN P := leB_inj (packN_lt Q) hlt h1
    unfold packN flipN at h2
    have hpx : P.x.val % 2 = 0 := by rw [h, fzero_val]
    rw [if_neg (show ¬ P.x.val % 2 = 1 by omega)] at h2
    have ey : Q.y = P.y := Fin.ext (by
      have a := P.y.isLt
      have b := Q.y.isLt
      have hp := pq_255
      generalize (2 : Nat) ^ 255 = B at *
      split at h2 <;> omega)
    have a := on_root.1 P.on
    have b := on_root.1 Q.on
    rw [ey] at b
    rw [← a, h] at b
    have hq : Q.x * Q.x = 0 := by
      rcases fk_mul0 (show Q.x * Q.x * (P.y * P.y * dF + 1) = 0 by rw [b]; grind) with e | e
      · exact e
      · exact absurd e (v_ne _)
    have hq0 : Q.x = 0 := by rcases fk_mul0 hq with e | e <;> exact e
    rw [hq0, fzero_val, ey] at h2
    exact absurd h2 (by
      rw [if_neg (by decide)]
      have : (0 : Nat) < 2 ^ 255 := by decide
      omega)
/-! Numbers out of bytes. -/
theorem and_65535 (n : Int) : bits .and .i64 n 65535 = ((n % 65536).toNat : Int) := by
  have h127 : (BitVec.ofInt 64 65535).toNat = 2 ^ 16 - 1 := by decide
  have key : (BitVec.ofInt 64 n &&& BitVec.ofInt 64 65535).toNat = (n % ((2 ^ 64 : Nat) : Int)).toNat % 2 ^ 16 := by
    rw [BitVec.toNat_and, BitVec.toNat_ofInt, h127, Nat.and_two_pow_sub_one_eq_mod]
  show IntKind.i64.wrap ((BitVec.ofInt 64 n &&& BitVec.ofInt 64 65535).toNat : Nat) = _
  rw [key, IntKind.wrap_i64]
  omega
theorem and_255 (n : Int) : bits .and .i64 n 255 = ((n % 256).toNat : Int) := by
  have h127 : (BitVec.ofInt 64 255).toNat = 2 ^ 8 - 1 := by decide
  have key : (BitVec.ofInt 64 n &&& BitVec.ofInt 64 255).toNat = (n % ((2 ^ 64 : Nat) : Int)).toNat % 2 ^ 8 := by
    rw [BitVec.toNat_and, BitVec.toNat_ofInt, h127, Nat.and_two_pow_sub_one_eq_mod]
  show IntKind.i64.wrap ((BitVec.ofInt 64 n &&& BitVec.ofInt 64 255).toNat : Nat) = _
  rw [key, IntKind.wrap_i64]
  omega
/-- l, as the laws spell it. -/
def lL : List UInt8 := [0xed, 0xd3, 0xf5, 0x5c, 0x1a, 0x63, 0x12, 0x58, 0xd6, 0x9c, 0xf7, 0xa2, 0xde, 0xf9, 0xde, 0x14, 0, 0, 0, 0, 0, 0, 0, 0, 0, 0, 0, 0, 0, 0, 0, 16]
theorem lL_val : mulV lL = Lq := by unfold Lq; decide +kernel
theorem l_mul : tmE Bp (mulV lL) = .zero := by rw [lL_val]; exact l_base
end Go.Proofs.YtgahjjdbpjgemaaDoor
