/-
  Joined of texts of mine, in build order: Bo, Sa, Sb, Sc, Sd, Se, Sf, Sg, Sh, Si, Sj, Ha. Each says what it proves at its own head.
-/
import Derived.Test.YtnohmgpmmhlloaaGreatDoorRows
import Derived.Laws.Bits64b
import Derived.Laws.Externs
import Derived.Deep.DeepCutAuto
import Derived.Deep.LoopGhost
import Derived.Test.YtnohmgpmmhlloaaGreatDoorPd
set_option linter.unusedSimpArgs false
set_option linter.unusedVariables false

namespace Go.Proofs.YtnohmgpmmhlloaaGreatDoor
open Go.RowKit
set_option linter.unusedSimpArgs false

theorem tyB8 : RowTy Tryz.prog 22 5 1 1 := tyB
set_option maxRecDepth 100000 in
set_option maxHeartbeats 800000 in
theorem clone32 {A : Option Addr} {c : Nat} {l : List UInt8} (w : World) (hr : Rd w (.slice A 32 c) 1 32 (bvs l)) : Calls Tryz.prog 33 #[.slice A 32 c] w fun e w' => ∃ B d, e = .returned (.slice B 32 d) ∧ Below w.heap.size w w' ∧ w'.ownsRow w.heap.size 5 1 (.slice B 32 d) 32 (bvs l) := by
  cases A with
  | none =>
    obtain ⟨A', c', hv, _, h1, h2, h3, _⟩ := hr
    injection hv with hv1 hv2 hv3
    subst hv1
    have := h3 rfl
    omega
  | some a =>
    have hS1 : St w NoB (w.alloc (.cells #[] 5)) [.row (.slice (some ⟨w.heap.size, 0, none⟩) 0 0) 5 1 0 []] := (St.init w NoB).row ((Below.refl w.heap.size w).alloc (Nat.le_refl _) _) ⟨rfl, .inr ⟨w.heap.size, 0, #[], rfl, Nat.le_refl _, by show (w.heap.push _)[w.heap.size]? = _; simp, Nat.le_refl _, by decide, rfl, rfl⟩⟩
    have HS1 := hide hS1
    have HR1 := hide (hr.below ((Below.refl w.heap.size w).alloc (Nat.le_refl _) (.cells #[] 5)))
    clear hS1 hr
    have hnil : ∀ W, (binOp .eql 22 (.slice (some a) 32 c) (.slice none 0 0)).run Tryz.prog W = .ok (.bool false) W := fun W => by kernel_rfl
    go_enter Tryz.func33, Tryz.ntmps33
    go_wp2_with (at_builtin; refine wl_append rfl rfl tyB HS1.out 0 rfl rfl rfl HR1.out (one_bvs l) (by omega) (by decide) ?_; intro A' c' w' hS2; rw [Nat.zero_add, List.nil_append] at hS2; have HS2 := hide hS2; clear hS2)
    go_ret
    exact ⟨_, _, rfl, HS2.out.below, HS2.out.ownsRow 0 rfl⟩
theorem u8_and127 (n : Nat) (h : n < 256) : bits .and .u8 (n : Int) 127 = ((n % 128 : Nat) : Int) := by
  have : ∀ m : Fin 256, bits .and .u8 (m.val : Int) 127 = ((m.val % 128 : Nat) : Int) := by decide +kernel
  exact this ⟨n, h⟩
theorem zP_quad : zP = quad zE zE zE zE := rfl
theorem zP_pt : PtV zP .zero := ⟨⟨0, 0, 0, 0⟩, zE, zE, zE, zE, zP_quad, ea_zE, ea_zE, ea_zE, ea_zE, .inr ⟨rfl, rfl⟩⟩
def ResF (w : World) (o : Option Ed) (e : Ending) (w' : World) : Prop := ∃ v, PtV v (o.getD .zero) ∧ e = .returned (.tuple #[.agg v, .bool o.isSome]) ∧ Below w.heap.size w w'
set_option maxRecDepth 100000 in
set_option maxHeartbeats 1600000 in
theorem from_no {A : Option Addr} {n c : Nat} {l : List UInt8} (w : World) (hl : l.length = n) (hn : n ≠ 32) : Calls Tryz.prog 38 #[.slice A n c] w (ResF w (fromL l)) := by
  have hF : fromL l = none := by unfold fromL; rw [if_neg (by omega)]
  have q0 : ((n : Int) != 32) = true := by simp; omega
  have HS := hide (St.init w NoB)
  have hzpt := show PtV (#[.int .u64 0, .int .u64 0, .int .u64 0, .int .u64 0, .int .u64 0, .int .u64 0, .int .u64 0, .int .u64 0, .int .u64 0, .int .u64 0, .int .u64 0, .int .u64 0, .int .u64 0, .int .u64 0, .int .u64 0, .int .u64 0, .int .u64 0, .int .u64 0, .int .u64 0, .int .u64 0] : Array Value) .zero from zP_pt
  rw [hF]
  clear hF hl hn
  go_enter Tryz.func38, Tryz.ntmps38
  go_wp2_with (first | (refine wl_loadP rfl rfl rfl HS.out (by (repeat first | exact .head _ | apply List.Mem.tail)) (by first | exact rowE | exact rowP | exact rowN | exact rowQ) (by (first | exact .q0 (EA.arr ‹_›) | exact .q1 (EA.arr ‹_›) (EA.arr ‹_›) | exact .q2 (EA.arr ‹_›) (EA.arr ‹_›) (EA.arr ‹_›) | exact .q3 (EA.arr ‹_›) (EA.arr ‹_›) (EA.arr ‹_›) (EA.arr ‹_›) | exact .q0 (NA.arr ‹_›) | exact .q1 (NA.arr ‹_›) (NA.arr ‹_›) | exact .q2 (NA.arr ‹_›) (NA.arr ‹_›) (NA.arr ‹_›) | exact .q3 (NA.arr ‹_›) (NA.arr ‹_›) (NA.arr ‹_›) (NA.arr ‹_›) | exact .all (by (first | exact EA.arr ‹_› | exact NA.arr ‹_› | exact arr_zE | exact arr_zN | exact arr_zP | exact arr_zQ | exact PtN.arr ‹_› | exact PtV.arr ‹_› | exact QtN.arr ‹_› | exact qE ‹_› ‹_› ‹_› ‹_› | exact qN ‹_› ‹_› ‹_› ‹_›)))) ?_; (try simp only [Act.put, nq1, nq2, nq3, nq4, nq5, nq6])) | (refine wl_storeR rfl rfl rfl rfl HS.out (by first | exact rowE | exact rowP | exact rowN | exact rowQ) (by (repeat first | exact .head | apply Upd.tail)) (by (first | exact EA.arr ‹_› | exact NA.arr ‹_› | exact arr_zE | exact arr_zN | exact arr_zP | exact arr_zQ | exact PtN.arr ‹_› | exact PtV.arr ‹_› | exact QtN.arr ‹_› | exact qE ‹_› ‹_› ‹_› ‹_› | exact qN ‹_› ‹_› ‹_› ‹_›)) (by (first | exact EA.arr ‹_› | exact NA.arr ‹_› | exact arr_zE | exact arr_zN | exact arr_zP | exact arr_zQ | exact PtN.arr ‹_› | exact PtV.arr ‹_› | exact QtN.arr ‹_› | exact qE ‹_› ‹_› ‹_› ‹_› | exact qN ‹_› ‹_› ‹_› ‹_›)) ?_; intro wz hS9; have HS := hide hS9; clear hS9; (try simp only [Act.put, nq1, nq2, nq3, nq4, nq5, nq6])) | (refine wl_allocR rfl rfl HS.out (by first | exact newE | exact newP | exact newN | exact newQ) ?_; intro gz wz hS9; have HS := hide hS9; clear hS9; (try simp only [Act.put, nq1, nq2, nq3, nq4, nq5, nq6])) | (refine wl_boxR rfl rfl rfl HS.out ?_; intro gz wz hS9; have HS := hide hS9; clear hS9; (try simp only [Act.put, nq1, nq2, nq3, nq4, nq5, nq6])))
  refine bodyPost_ret (results_cell_tmp_row rfl _ _ _ _ _ _ _ rfl (HS.out.heapM (by (repeat first | exact .head _ | apply List.Mem.tail))) Tryz.underlying63 rfl (by first | (rw [(EA.arr ‹_›).size]; kernel_rfl) | (rw [(NA.arr ‹_›).size]; kernel_rfl) | (rw [(qE ‹_› ‹_› ‹_› ‹_›).size]; kernel_rfl) | (rw [(qN ‹_› ‹_› ‹_› ‹_›).size]; kernel_rfl) | (rw [(PtN.arr ‹_›).size]; kernel_rfl) | (rw [(PtV.arr ‹_›).size]; kernel_rfl) | (rw [(QtN.arr ‹_›).size]; kernel_rfl))) rfl ?_
  exact ⟨_, hzpt, rfl, HS.out.below⟩
theorem en29_fr (args : Array Value) (w : World) : (callFunc 78 args).run Tryz.prog w = .ok (.enter 78 args) w := by kernel_rfl
theorem en36_fr (args : Array Value) (w : World) : (callFunc 83 args).run Tryz.prog w = .ok (.enter 83 args) w := by kernel_rfl
theorem en48_fr (args : Array Value) (w : World) : (callFunc 89 args).run Tryz.prog w = .ok (.enter 89 args) w := by kernel_rfl
theorem en51_fr (args : Array Value) (w : World) : (callFunc 87 args).run Tryz.prog w = .ok (.enter 87 args) w := by kernel_rfl
theorem en52_fr (args : Array Value) (w : World) : (callFunc 88 args).run Tryz.prog w = .ok (.enter 88 args) w := by kernel_rfl
theorem en53_fr (args : Array Value) (w : World) : (callFunc 90 args).run Tryz.prog w = .ok (.enter 90 args) w := by kernel_rfl
set_option maxRecDepth 100000 in
set_option maxHeartbeats 6400000 in
theorem from_32 {A : Option Addr} {c : Nat} {l : List UInt8} (w : World) (hl : l.length = 32) (hr : Rd w (.slice A 32 c) 1 32 (bvs l)) : Calls Tryz.prog 38 #[.slice A 32 c] w (ResF w (fromL l)) := by
  have HS := hide (St.init w NoB)
  have hzpt := show PtV (#[.int .u64 0, .int .u64 0, .int .u64 0, .int .u64 0, .int .u64 0, .int .u64 0, .int .u64 0, .int .u64 0, .int .u64 0, .int .u64 0, .int .u64 0, .int .u64 0, .int .u64 0, .int .u64 0, .int .u64 0, .int .u64 0, .int .u64 0, .int .u64 0, .int .u64 0, .int .u64 0] : Array Value) .zero from zP_pt
  obtain ⟨cb, hxb⟩ : ∃ cb, l[31]? = some cb := ⟨l[31], List.getElem?_eq_getElem _⟩
  obtain ⟨b, o, rfl, hcb⟩ := rd_at' hr (bvs_get hxb)
  have hbl := World.block_lt_of_cell? _ _ hcb
  have gB := bvs_get hxb
  obtain ⟨ch, hch⟩ : ∃ c : Nat, c = cb.toNat := ⟨_, rfl⟩
  have hc8 : ch < 256 := by rw [hch]; exact UInt8.toNat_lt _
  have hlow : lowL l = l.set 31 (UInt8.ofNat (ch % 128)) := by unfold lowL; rw [List.getD_eq_getElem?_getD, hxb, hch]; rfl
  have htop : topB l = decide (128 ≤ ch) := by unfold topB; rw [List.getD_eq_getElem?_getD, hxb, hch]; rfl
  rw [← hch] at hcb gB
  have hand := u8_and127 ch hc8
  have hm : ch % 128 < 256 := by omega
  obtain ⟨cm, hcm⟩ : ∃ m, m = ch % 128 := ⟨_, rfl⟩
  rw [← hcm] at hand hm hlow
  clear hcm
  have HB := hide (fun W (h : Below w.heap.size w W) => (h.cell (p := ⟨b, o + 31, none⟩) hbl).trans hcb)
  have HR := hide hr
  have GB := hide gB
  have HLOW := hide hlow
  have HTOP := hide htop
  have HL := hide hl
  have HM := hide hm
  clear hxb hch hcb hbl gB hlow htop hr hl hm
  go_enter Tryz.func38, Tryz.ntmps38
  go_upto_region 5 with (first
    | (go_at_call 33; (with_reducible refine (clone32 _ (HR.out.below HS.out.below)).mono ?_); rintro e wy ⟨B, d, rfl, hb, ho⟩; have HS := hide (HS.out.row hb ho); obtain ⟨g, c1, hvv, _, _, hcs, hfr, _⟩ := HS.out.rowOpen 0 rfl (by omega); injection hvv with hvv1 _ hvv3; subst hvv1 hvv3; have k31 := hcs 31 _ GB.out; have f31 := hfr 31; have HS9 := hide HS.out; clear ho hcs hfr)
    | (refine wl_loadP rfl rfl rfl HS.out (by (repeat first | exact .head _ | apply List.Mem.tail)) (by first | exact rowE | exact rowP | exact rowN | exact rowQ) (by (first | exact .q0 (EA.arr ‹_›) | exact .q1 (EA.arr ‹_›) (EA.arr ‹_›) | exact .q2 (EA.arr ‹_›) (EA.arr ‹_›) (EA.arr ‹_›) | exact .q3 (EA.arr ‹_›) (EA.arr ‹_›) (EA.arr ‹_›) (EA.arr ‹_›) | exact .q0 (NA.arr ‹_›) | exact .q1 (NA.arr ‹_›) (NA.arr ‹_›) | exact .q2 (NA.arr ‹_›) (NA.arr ‹_›) (NA.arr ‹_›) | exact .q3 (NA.arr ‹_›) (NA.arr ‹_›) (NA.arr ‹_›) (NA.arr ‹_›) | exact .all (by (first | exact EA.arr ‹_› | exact NA.arr ‹_› | exact arr_zE | exact arr_zN | exact arr_zP | exact arr_zQ | exact PtN.arr ‹_› | exact PtV.arr ‹_› | exact QtN.arr ‹_› | exact qE ‹_› ‹_› ‹_› ‹_› | exact qN ‹_› ‹_› ‹_› ‹_›)))) ?_; (try simp only [Act.put, nq1, nq2, nq3, nq4, nq5, nq6])) | (refine wl_storeR rfl rfl rfl rfl HS.out (by first | exact rowE | exact rowP | exact rowN | exact rowQ) (by (repeat first | exact .head | apply Upd.tail)) (by (first | exact EA.arr ‹_› | exact NA.arr ‹_› | exact arr_zE | exact arr_zN | exact arr_zP | exact arr_zQ | exact PtN.arr ‹_› | exact PtV.arr ‹_› | exact QtN.arr ‹_› | exact qE ‹_› ‹_› ‹_› ‹_› | exact qN ‹_› ‹_› ‹_› ‹_›)) (by (first | exact EA.arr ‹_› | exact NA.arr ‹_› | exact arr_zE | exact arr_zN | exact arr_zP | exact arr_zQ | exact PtN.arr ‹_› | exact PtV.arr ‹_› | exact QtN.arr ‹_› | exact qE ‹_› ‹_› ‹_› ‹_› | exact qN ‹_› ‹_› ‹_› ‹_›)) ?_; intro wz hS9; have HS := hide hS9; clear hS9; (try simp only [Act.put, nq1, nq2, nq3, nq4, nq5, nq6])) | (refine wl_allocR rfl rfl HS.out (by first | exact newE | exact newP | exact newN | exact newQ) ?_; intro gz wz hS9; have HS := hide hS9; clear hS9; (try simp only [Act.put, nq1, nq2, nq3, nq4, nq5, nq6])) | (refine wl_boxR rfl rfl rfl HS.out ?_; intro gz wz hS9; have HS := hide hS9; clear hS9; (try simp only [Act.put, nq1, nq2, nq3, nq4, nq5, nq6])))
  have h9 := HS9.out.rowSet 0 rfl 31 (.int .u8 (cm : Int)) (by omega)
  simp only [List.set_cons_zero] at h9
  rw [bvs_set _ _ _ HM.out, ← HLOW.out] at h9
  have HS := hide h9
  have hll : (lowL l).length = 32 := by rw [lowL_len]; exact HL.out
  clear h9 HS9 k31 f31
  go_upto_region 7 with (first
    | (go_at_call 86; (with_reducible refine (fromA _ hll (by decide) (HS.out.rd 0 rfl)).mono ?_); rintro e wy ⟨zy, hzy, rfl, hb⟩; have HS := hide (HS.out.call hb))
    | (go_at_call 83; (with_reducible refine (mulA _ hzy hzy).mono ?_); rintro e wy ⟨zs, hzs, rfl, hb⟩; have HS := hide (HS.out.call hb))
    | (refine wl_storeR rfl rfl rfl rfl HS.out rowE (.head) (by first | exact EA.arr ‹_› | exact arr_zE) (by first | exact EA.arr ‹_› | exact arr_zE) ?_; intro wz hS9; have HS := hide hS9; clear hS9; (try simp only [Act.put, nq1, nq2, nq3, nq4, nq5, nq6])) | (refine wl_loadP rfl rfl rfl HS.out (.head _) rowE (.all (by first | exact EA.arr ‹_› | exact arr_zE)) ?_; (try simp only [Act.put, nq1, nq2, nq3, nq4, nq5, nq6])) | (refine wl_allocR rfl rfl HS.out newE ?_; intro gz wz hS9; have HS := hide hS9; clear hS9; (try simp only [Act.put, nq1, nq2, nq3, nq4, nq5, nq6])))
  have HS := hide HS.out.drew
  refine wp_region_XE [(12, 7)] [(0, 0), (3, 0), (1, 2), (2, 2), (4, 2), (5, 2), (6, 2), (7, 2), (8, 2), (9, 1), (10, 1), (11, 1)] (.op 13 2 (.op 14 1 (.nil))) zE 61 (by kernel_rfl) (by kernel_rfl) (by kernel_rfl) (by intro p hp; simp only [List.mem_cons, List.not_mem_nil, or_false] at hp; subst hp <;> exact flOp_of rfl rfl rfl (fun ev x => run_allocR rfl newE ev x)) (fun _ _ _ _ h => h) ?_
  refine wpX_loadP rfl rfl rfl rfl HS.out (.head _) rowE (.all (by first | exact EA.arr ‹_› | exact arr_zE)) ?_; (try simp only [Act.put, nq1, nq2, nq3, nq4, nq5, nq6])
  refine wpX_loadP rfl rfl rfl rfl HS.out (.head _) rowE (.all (by first | exact EA.arr ‹_› | exact arr_zE)) ?_; (try simp only [Act.put, nq1, nq2, nq3, nq4, nq5, nq6])
  refine wpX_callF rfl rfl rfl en48_fr rfl (fun x => small1A x) ?_; rintro xw e wy ⟨z, hz, rfl, hb⟩; refine ⟨_, rfl, hb, ?_⟩; (try simp only [Act.put, nq1, nq2, nq3, nq4, nq5, nq6])
  refine wpX_callF rfl rfl rfl en52_fr rfl (fun x => subA x ‹_› ‹_›) ?_; rintro xw e wy ⟨z, hz, rfl, hb⟩; refine ⟨_, rfl, hb, ?_⟩; (try simp only [Act.put, nq1, nq2, nq3, nq4, nq5, nq6])
  refine wpX_callF rfl rfl rfl en29_fr rfl (fun x => numD x) ?_; rintro xw e wy ⟨z, hz, rfl, hb⟩; refine ⟨_, rfl, hb, ?_⟩; (try simp only [Act.put, nq1, nq2, nq3, nq4, nq5, nq6])
  refine wpX_callF rfl rfl rfl en36_fr rfl (fun x => mulA x ‹_› ‹_›) ?_; rintro xw e wy ⟨z, hz, rfl, hb⟩; refine ⟨_, rfl, hb, ?_⟩; (try simp only [Act.put, nq1, nq2, nq3, nq4, nq5, nq6])
  refine wpX_callF rfl rfl rfl en48_fr rfl (fun x => small1A x) ?_; rintro xw e wy ⟨z, hz, rfl, hb⟩; refine ⟨_, rfl, hb, ?_⟩; (try simp only [Act.put, nq1, nq2, nq3, nq4, nq5, nq6])
  refine wpX_callF rfl rfl rfl en53_fr rfl (fun x => addA x ‹_› ‹_›) ?_; rintro xw e wy ⟨z, hz, rfl, hb⟩; refine ⟨_, rfl, hb, ?_⟩; (try simp only [Act.put, nq1, nq2, nq3, nq4, nq5, nq6])
  refine wpX_callF rfl rfl rfl en51_fr rfl (fun x => root_any x (by assumption) (by assumption)) ?_; rintro xw e wy ⟨z, hz, rfl, hb⟩; refine ⟨_, rfl, hb, ?_⟩; (try simp only [Act.put, nq1, nq2, nq3, nq4, nq5, nq6])
  (refine wpX_pure (v := ?_) rfl rfl ?_ ?_; rotate_left; (intro wx; go_simp; try go_bits) <;> (with_reducible rfl)); (try simp only [Act.put, nq1, nq2, nq3, nq4, nq5, nq6])
  (refine wpX_pure (v := ?_) rfl rfl ?_ ?_; rotate_left; (intro wx; go_simp; try go_bits) <;> (with_reducible rfl)); (try simp only [Act.put, nq1, nq2, nq3, nq4, nq5, nq6])
  (refine wpX_pure (v := ?_) rfl rfl ?_ ?_; rotate_left; (intro wx; go_simp; try go_bits) <;> (with_reducible rfl)); (try simp only [Act.put, nq1, nq2, nq3, nq4, nq5, nq6])
  refine wpX_nil ?_; intro G xz hx0 hx hF; have hS9 := HS.out.floats hx0 hF _ (by decide) (fun _ h => h); simp only [List.map_cons, List.map_nil, List.cons_append, List.nil_append] at hS9; have HS := hide hS9; have HX := hide hx0; have HG := hide hF.at_; clear hS9 hF hx0 hx; simp only [putsE, List.foldl_cons, List.foldl_nil]; (try simp only [Act.put, nq1, nq2, nq3, nq4, nq5, nq6])
  refine wpS_storeF rfl rfl rfl rfl rfl HS.out HX.out (HG.out 12 (by simp)).1 rowE (.head) (by first | exact EA.arr ‹_› | exact arr_zE) (by first | exact EA.arr ‹_› | exact arr_zE) ?_; intro wz hS9 hX9; have HS := hide hS9; have HX := hide hX9; clear hS9 hX9; (try simp only [Act.put, nq1, nq2, nq3, nq4, nq5, nq6])
  (refine wpS_pure (v := ?_) rfl rfl ?_ ?_; rotate_left; (intro wx; go_simp; try go_bits) <;> (with_reducible rfl)); (try simp only [Act.put, nq1, nq2, nq3, nq4, nq5, nq6])
  refine wpS_nil ?_
  cases hrt : rtF (fbytes (lowL l) * fbytes (lowL l) - 1) (fbytes (lowL l) * fbytes (lowL l) * dF + 1) with
  | none =>
    have hF : fromL l = none := by unfold fromL; rw [if_pos HL.out, unp_none hrt]
    simp only [Option.isSome_none]
    have HFK := hide hF
    clear hrt hF
    go_wp2_with (first | (refine wl_storeR rfl rfl rfl rfl HS.out rowP (.tail (.tail (.tail (.tail (.head))))) (by first | exact arr_zP | exact PtN.arr ‹_› | exact PtV.arr ‹_› | exact qE ‹_› ‹_› ‹_› ‹_›) (by first | exact arr_zP | exact PtN.arr ‹_› | exact PtV.arr ‹_› | exact qE ‹_› ‹_› ‹_› ‹_›) ?_; intro wz hS9; have HS := hide hS9; clear hS9; (try simp only [Act.put, nq1, nq2, nq3, nq4, nq5, nq6])))
    refine bodyPost_ret (results_cell_tmp_row rfl _ _ _ _ _ _ _ rfl (HS.out.heapM (by (repeat first | exact .head _ | apply List.Mem.tail))) Tryz.underlying63 rfl (by first | (rw [(EA.arr ‹_›).size]; kernel_rfl) | (rw [(NA.arr ‹_›).size]; kernel_rfl) | (rw [(qE ‹_› ‹_› ‹_› ‹_›).size]; kernel_rfl) | (rw [(qN ‹_› ‹_› ‹_› ‹_›).size]; kernel_rfl) | (rw [(PtN.arr ‹_›).size]; kernel_rfl) | (rw [(PtV.arr ‹_›).size]; kernel_rfl) | (rw [(QtN.arr ‹_›).size]; kernel_rfl))) rfl ?_
    rw [HFK.out]
    exact ⟨_, hzpt, rfl, HS.out.below⟩
  | some x =>
    have hx := ‹EA _ ((rtF (fbytes (lowL l) * fbytes (lowL l) - 1) (fbytes (lowL l) * fbytes (lowL l) * dF + 1)).getD 0)›
    rw [hrt, Option.getD_some] at hx
    obtain ⟨P, hP, hPx, hPy⟩ := unp_some (odd := topB l) hrt
    have hF : fromL l = if packL P = l then some P else none := by
      unfold fromL
      rw [if_pos HL.out, hP]
    simp only [Option.isSome_some]
    have HF := hide hF
    have HPY := hide hPy
    clear hrt hF hP
    go_upto_region 10 with fail
    have hq := HB.out _ HS.out.below
    have hbp := fun (a b c d : Array Value) (W : World) (ha : EA a P.x) (hb : EA b P.y) (hc : EA c 1) (hd : EA d (P.x * P.y)) => bytesP32 W (PtN.v ⟨⟨P.x, P.y, 1, P.x * P.y⟩, a, b, c, d, rfl, ha, hb, hc, hd, rp_of P⟩)
    have HBP := hide hbp
    have hpt := fun (a b c d : Array Value) (ha : EA a P.x) (hb : EA b P.y) (hc : EA c 1) (hd : EA d (P.x * P.y)) => (PtN.v ⟨⟨P.x, P.y, 1, P.x * P.y⟩, a, b, c, d, rfl, ha, hb, hc, hd, rp_of P⟩ : PtV (quad a b c d) P)
    have HPT := hide hpt
    have HPL := hide (packL_len P)
    clear hbp hpt hPy
    rw [HTOP.out] at hPx
    rw [← HPY.out] at hzy
    by_cases ht : 128 ≤ ch
    · have d1 : decide ((127 : Int) < (ch : Int)) = true := by simp; omega
      have d1' : decide (127 < ch) = true := by simp; omega
      rw [decide_eq_true ht] at hPx
      have hPx2 : P.x = -x := hPx
      clear ht hPx
      by_cases hk : packL P = l
      · have HEQ := hide (fun W B d (hr1 : Rd W (.slice B 32 d) 1 32 (bvs (packL P))) (hr2 : Rd W (.slice (some ⟨b, o, none⟩) 32 c) 1 32 (bvs l)) => equal_walk B (some ⟨b, o, none⟩) 32 d c (packL P) l W HPL.out HL.out (by decide) hr1 hr2)
        rw [decide_eq_true hk] at HEQ
        have HFK := hide (HF.out.trans (if_pos hk))
        clear hk
        go_wp2_with (first | (go_at_call 91; (with_reducible refine (negA _ hx).mono ?_); rintro e wy ⟨zn, hxn, rfl, hb⟩; rw [← hPx2] at hxn; have HS := hide (HS.out.call hb)) | (go_at_call 77; (with_reducible refine (at_any _ hxn hzy).mono ?_); rintro e wy ⟨qa, qb, qc, qd, hqa, hqb, hqc, hqd, rfl, hb⟩; have HS := hide (HS.out.call hb); have hpv := HPT.out _ _ _ _ hqa hqb hqc hqd) | (go_at_call 37; (with_reducible refine (HBP.out _ _ _ _ _ hqa hqb hqc hqd).mono ?_); rintro e wy ⟨B2, d2, rfl, hb, ho⟩; have HS := hide (HS.out.row hb ho); clear ho) | (go_at_call 43; (with_reducible refine (HEQ.out _ _ _ (HS.out.rd 0 rfl) (HR.out.below HS.out.below)).mono ?_); rintro e wy ⟨rfl, hb⟩; have HS := hide (HS.out.call hb)) | (refine wl_loadP rfl rfl rfl HS.out (.head _) rowE (.all (by first | exact EA.arr ‹_› | exact arr_zE)) ?_; (try simp only [Act.put, nq1, nq2, nq3, nq4, nq5, nq6])) | (refine wl_storeR rfl rfl rfl rfl HS.out rowE (.head) (by first | exact EA.arr ‹_› | exact arr_zE) (by first | exact EA.arr ‹_› | exact arr_zE) ?_; intro wz hS9; have HS := hide hS9; clear hS9; (try simp only [Act.put, nq1, nq2, nq3, nq4, nq5, nq6])) | (refine wl_loadP rfl rfl rfl HS.out (.tail _ (.tail _ (.head _))) rowE (.all (by first | exact EA.arr ‹_› | exact arr_zE)) ?_; (try simp only [Act.put, nq1, nq2, nq3, nq4, nq5, nq6])) | (refine wl_storeR rfl rfl rfl rfl HS.out rowP (.head) (by first | exact arr_zP | exact PtN.arr ‹_› | exact PtV.arr ‹_› | exact qE ‹_› ‹_› ‹_› ‹_›) (by first | exact arr_zP | exact PtN.arr ‹_› | exact PtV.arr ‹_› | exact qE ‹_› ‹_› ‹_› ‹_›) ?_; intro wz hS9; have HS := hide hS9; clear hS9; (try simp only [Act.put, nq1, nq2, nq3, nq4, nq5, nq6])) | (refine wl_loadP rfl rfl rfl HS.out (.head _) rowP (.all (by first | exact arr_zP | exact PtN.arr ‹_› | exact PtV.arr ‹_› | exact qE ‹_› ‹_› ‹_› ‹_›)) ?_; (try simp only [Act.put, nq1, nq2, nq3, nq4, nq5, nq6])) | (refine wl_storeR rfl rfl rfl rfl HS.out rowP (.tail (.tail (.tail (.tail (.tail (.tail (.head))))))) (by first | exact arr_zP | exact PtN.arr ‹_› | exact PtV.arr ‹_› | exact qE ‹_› ‹_› ‹_› ‹_›) (by first | exact arr_zP | exact PtN.arr ‹_› | exact PtV.arr ‹_› | exact qE ‹_› ‹_› ‹_› ‹_›) ?_; intro wz hS9; have HS := hide hS9; clear hS9; (try simp only [Act.put, nq1, nq2, nq3, nq4, nq5, nq6])) | (refine wl_loadP rfl rfl rfl HS.out (.tail _ (.head _)) rowP (.all (by first | exact arr_zP | exact PtN.arr ‹_› | exact PtV.arr ‹_› | exact qE ‹_› ‹_› ‹_› ‹_›)) ?_; (try simp only [Act.put, nq1, nq2, nq3, nq4, nq5, nq6])) | (refine wl_allocR rfl rfl HS.out newP ?_; intro gz wz hS9; have HS := hide hS9; clear hS9; (try simp only [Act.put, nq1, nq2, nq3, nq4, nq5, nq6])))
        refine bodyPost_ret (results_cell_tmp_row rfl _ _ _ _ _ _ _ rfl (HS.out.heapM (by (repeat first | exact .head _ | apply List.Mem.tail))) Tryz.underlying63 rfl (by first | (rw [(EA.arr ‹_›).size]; kernel_rfl) | (rw [(NA.arr ‹_›).size]; kernel_rfl) | (rw [(qE ‹_› ‹_› ‹_› ‹_›).size]; kernel_rfl) | (rw [(qN ‹_› ‹_› ‹_› ‹_›).size]; kernel_rfl) | (rw [(PtN.arr ‹_›).size]; kernel_rfl) | (rw [(PtV.arr ‹_›).size]; kernel_rfl) | (rw [(QtN.arr ‹_›).size]; kernel_rfl))) rfl ?_
        rw [HFK.out]
        exact ⟨_, hpv, rfl, HS.out.below⟩
      · have HEQ := hide (fun W B d (hr1 : Rd W (.slice B 32 d) 1 32 (bvs (packL P))) (hr2 : Rd W (.slice (some ⟨b, o, none⟩) 32 c) 1 32 (bvs l)) => equal_walk B (some ⟨b, o, none⟩) 32 d c (packL P) l W HPL.out HL.out (by decide) hr1 hr2)
        rw [decide_eq_false hk] at HEQ
        have HFK := hide (HF.out.trans (if_neg hk))
        clear hk
        go_wp2_with (first | (go_at_call 91; (with_reducible refine (negA _ hx).mono ?_); rintro e wy ⟨zn, hxn, rfl, hb⟩; rw [← hPx2] at hxn; have HS := hide (HS.out.call hb)) | (go_at_call 77; (with_reducible refine (at_any _ hxn hzy).mono ?_); rintro e wy ⟨qa, qb, qc, qd, hqa, hqb, hqc, hqd, rfl, hb⟩; have HS := hide (HS.out.call hb); have hpv := HPT.out _ _ _ _ hqa hqb hqc hqd) | (go_at_call 37; (with_reducible refine (HBP.out _ _ _ _ _ hqa hqb hqc hqd).mono ?_); rintro e wy ⟨B2, d2, rfl, hb, ho⟩; have HS := hide (HS.out.row hb ho); clear ho) | (go_at_call 43; (with_reducible refine (HEQ.out _ _ _ (HS.out.rd 0 rfl) (HR.out.below HS.out.below)).mono ?_); rintro e wy ⟨rfl, hb⟩; have HS := hide (HS.out.call hb)) | (refine wl_loadP rfl rfl rfl HS.out (.head _) rowE (.all (by first | exact EA.arr ‹_› | exact arr_zE)) ?_; (try simp only [Act.put, nq1, nq2, nq3, nq4, nq5, nq6])) | (refine wl_storeR rfl rfl rfl rfl HS.out rowE (.head) (by first | exact EA.arr ‹_› | exact arr_zE) (by first | exact EA.arr ‹_› | exact arr_zE) ?_; intro wz hS9; have HS := hide hS9; clear hS9; (try simp only [Act.put, nq1, nq2, nq3, nq4, nq5, nq6])) | (refine wl_loadP rfl rfl rfl HS.out (.tail _ (.tail _ (.head _))) rowE (.all (by first | exact EA.arr ‹_› | exact arr_zE)) ?_; (try simp only [Act.put, nq1, nq2, nq3, nq4, nq5, nq6])) | (refine wl_storeR rfl rfl rfl rfl HS.out rowP (.head) (by first | exact arr_zP | exact PtN.arr ‹_› | exact PtV.arr ‹_› | exact qE ‹_› ‹_› ‹_› ‹_›) (by first | exact arr_zP | exact PtN.arr ‹_› | exact PtV.arr ‹_› | exact qE ‹_› ‹_› ‹_› ‹_›) ?_; intro wz hS9; have HS := hide hS9; clear hS9; (try simp only [Act.put, nq1, nq2, nq3, nq4, nq5, nq6])) | (refine wl_loadP rfl rfl rfl HS.out (.head _) rowP (.all (by first | exact arr_zP | exact PtN.arr ‹_› | exact PtV.arr ‹_› | exact qE ‹_› ‹_› ‹_› ‹_›)) ?_; (try simp only [Act.put, nq1, nq2, nq3, nq4, nq5, nq6])) | (refine wl_storeR rfl rfl rfl rfl HS.out rowP (.tail (.tail (.tail (.tail (.tail (.tail (.head))))))) (by first | exact arr_zP | exact PtN.arr ‹_› | exact PtV.arr ‹_› | exact qE ‹_› ‹_› ‹_› ‹_›) (by first | exact arr_zP | exact PtN.arr ‹_› | exact PtV.arr ‹_› | exact qE ‹_› ‹_› ‹_› ‹_›) ?_; intro wz hS9; have HS := hide hS9; clear hS9; (try simp only [Act.put, nq1, nq2, nq3, nq4, nq5, nq6])) | (refine wl_loadP rfl rfl rfl HS.out (.tail _ (.head _)) rowP (.all (by first | exact arr_zP | exact PtN.arr ‹_› | exact PtV.arr ‹_› | exact qE ‹_› ‹_› ‹_› ‹_›)) ?_; (try simp only [Act.put, nq1, nq2, nq3, nq4, nq5, nq6])) | (refine wl_allocR rfl rfl HS.out newP ?_; intro gz wz hS9; have HS := hide hS9; clear hS9; (try simp only [Act.put, nq1, nq2, nq3, nq4, nq5, nq6])))
        refine bodyPost_ret (results_cell_tmp_row rfl _ _ _ _ _ _ _ rfl (HS.out.heapM (by (repeat first | exact .head _ | apply List.Mem.tail))) Tryz.underlying63 rfl (by first | (rw [(EA.arr ‹_›).size]; kernel_rfl) | (rw [(NA.arr ‹_›).size]; kernel_rfl) | (rw [(qE ‹_› ‹_› ‹_› ‹_›).size]; kernel_rfl) | (rw [(qN ‹_› ‹_› ‹_› ‹_›).size]; kernel_rfl) | (rw [(PtN.arr ‹_›).size]; kernel_rfl) | (rw [(PtV.arr ‹_›).size]; kernel_rfl) | (rw [(QtN.arr ‹_›).size]; kernel_rfl))) rfl ?_
        rw [HFK.out]
        exact ⟨_, hzpt, rfl, HS.out.below⟩
    · have d1 : decide ((127 : Int) < (ch : Int)) = false := by simp; omega
      have d1' : decide (127 < ch) = false := by simp; omega
      rw [decide_eq_false ht] at hPx
      have hPx2 : P.x = x := hPx
      clear ht hPx
      by_cases hk : packL P = l
      · have HEQ := hide (fun W B d (hr1 : Rd W (.slice B 32 d) 1 32 (bvs (packL P))) (hr2 : Rd W (.slice (some ⟨b, o, none⟩) 32 c) 1 32 (bvs l)) => equal_walk B (some ⟨b, o, none⟩) 32 d c (packL P) l W HPL.out HL.out (by decide) hr1 hr2)
        rw [decide_eq_true hk] at HEQ
        have HFK := hide (HF.out.trans (if_pos hk))
        clear hk
        have hxn := hx
        rw [← hPx2] at hxn
        go_wp2_with (first | (go_at_call 77; (with_reducible refine (at_any _ hxn hzy).mono ?_); rintro e wy ⟨qa, qb, qc, qd, hqa, hqb, hqc, hqd, rfl, hb⟩; have HS := hide (HS.out.call hb); have hpv := HPT.out _ _ _ _ hqa hqb hqc hqd) | (go_at_call 37; (with_reducible refine (HBP.out _ _ _ _ _ hqa hqb hqc hqd).mono ?_); rintro e wy ⟨B2, d2, rfl, hb, ho⟩; have HS := hide (HS.out.row hb ho); clear ho) | (go_at_call 43; (with_reducible refine (HEQ.out _ _ _ (HS.out.rd 0 rfl) (HR.out.below HS.out.below)).mono ?_); rintro e wy ⟨rfl, hb⟩; have HS := hide (HS.out.call hb)) | (refine wl_loadP rfl rfl rfl HS.out (.head _) rowE (.all (by first | exact EA.arr ‹_› | exact arr_zE)) ?_; (try simp only [Act.put, nq1, nq2, nq3, nq4, nq5, nq6])) | (refine wl_storeR rfl rfl rfl rfl HS.out rowE (.head) (by first | exact EA.arr ‹_› | exact arr_zE) (by first | exact EA.arr ‹_› | exact arr_zE) ?_; intro wz hS9; have HS := hide hS9; clear hS9; (try simp only [Act.put, nq1, nq2, nq3, nq4, nq5, nq6])) | (refine wl_loadP rfl rfl rfl HS.out (.tail _ (.tail _ (.head _))) rowE (.all (by first | exact EA.arr ‹_› | exact arr_zE)) ?_; (try simp only [Act.put, nq1, nq2, nq3, nq4, nq5, nq6])) | (refine wl_storeR rfl rfl rfl rfl HS.out rowP (.head) (by first | exact arr_zP | exact PtN.arr ‹_› | exact PtV.arr ‹_› | exact qE ‹_› ‹_› ‹_› ‹_›) (by first | exact arr_zP | exact PtN.arr ‹_› | exact PtV.arr ‹_› | exact qE ‹_› ‹_› ‹_› ‹_›) ?_; intro wz hS9; have HS := hide hS9; clear hS9; (try simp only [Act.put, nq1, nq2, nq3, nq4, nq5, nq6])) | (refine wl_loadP rfl rfl rfl HS.out (.head _) rowP (.all (by first | exact arr_zP | exact PtN.arr ‹_› | exact PtV.arr ‹_› | exact qE ‹_› ‹_› ‹_› ‹_›)) ?_; (try simp only [Act.put, nq1, nq2, nq3, nq4, nq5, nq6])) | (refine wl_storeR rfl rfl rfl rfl HS.out rowP (.tail (.tail (.tail (.tail (.tail (.tail (.head))))))) (by first | exact arr_zP | exact PtN.arr ‹_› | exact PtV.arr ‹_› | exact qE ‹_› ‹_› ‹_› ‹_›) (by first | exact arr_zP | exact PtN.arr ‹_› | exact PtV.arr ‹_› | exact qE ‹_› ‹_› ‹_› ‹_›) ?_; intro wz hS9; have HS := hide hS9; clear hS9; (try simp only [Act.put, nq1, nq2, nq3, nq4, nq5, nq6])) | (refine wl_loadP rfl rfl rfl HS.out (.tail _ (.head _)) rowP (.all (by first | exact arr_zP | exact PtN.arr ‹_› | exact PtV.arr ‹_› | exact qE ‹_› ‹_› ‹_› ‹_›)) ?_; (try simp only [Act.put, nq1, nq2, nq3, nq4, nq5, nq6])) | (refine wl_allocR rfl rfl HS.out newP ?_; intro gz wz hS9; have HS := hide hS9; clear hS9; (try simp only [Act.put, nq1, nq2, nq3, nq4, nq5, nq6])))
        refine bodyPost_ret (results_cell_tmp_row rfl _ _ _ _ _ _ _ rfl (HS.out.heapM (by (repeat first | exact .head _ | apply List.Mem.tail))) Tryz.underlying63 rfl (by first | (rw [(EA.arr ‹_›).size]; kernel_rfl) | (rw [(NA.arr ‹_›).size]; kernel_rfl) | (rw [(qE ‹_› ‹_› ‹_› ‹_›).size]; kernel_rfl) | (rw [(qN ‹_› ‹_› ‹_› ‹_›).size]; kernel_rfl) | (rw [(PtN.arr ‹_›).size]; kernel_rfl) | (rw [(PtV.arr ‹_›).size]; kernel_rfl) | (rw [(QtN.arr ‹_›).size]; kernel_rfl))) rfl ?_
        rw [HFK.out]
        exact ⟨_, hpv, rfl, HS.out.below⟩
      · have HEQ := hide (fun W B d (hr1 : Rd W (.slice B 32 d) 1 32 (bvs (packL P))) (hr2 : Rd W (.slice (some ⟨b, o, none⟩) 32 c) 1 32 (bvs l)) => equal_walk B (some ⟨b, o, none⟩) 32 d c (packL P) l W HPL.out HL.out (by decide) hr1 hr2)
        rw [decide_eq_false hk] at HEQ
        have HFK := hide (HF.out.trans (if_neg hk))
        clear hk
        have hxn := hx
        rw [← hPx2] at hxn
        go_wp2_with (first | (go_at_call 77; (with_reducible refine (at_any _ hxn hzy).mono ?_); rintro e wy ⟨qa, qb, qc, qd, hqa, hqb, hqc, hqd, rfl, hb⟩; have HS := hide (HS.out.call hb); have hpv := HPT.out _ _ _ _ hqa hqb hqc hqd) | (go_at_call 37; (with_reducible refine (HBP.out _ _ _ _ _ hqa hqb hqc hqd).mono ?_); rintro e wy ⟨B2, d2, rfl, hb, ho⟩; have HS := hide (HS.out.row hb ho); clear ho) | (go_at_call 43; (with_reducible refine (HEQ.out _ _ _ (HS.out.rd 0 rfl) (HR.out.below HS.out.below)).mono ?_); rintro e wy ⟨rfl, hb⟩; have HS := hide (HS.out.call hb)) | (refine wl_loadP rfl rfl rfl HS.out (.head _) rowE (.all (by first | exact EA.arr ‹_› | exact arr_zE)) ?_; (try simp only [Act.put, nq1, nq2, nq3, nq4, nq5, nq6])) | (refine wl_storeR rfl rfl rfl rfl HS.out rowE (.head) (by first | exact EA.arr ‹_› | exact arr_zE) (by first | exact EA.arr ‹_› | exact arr_zE) ?_; intro wz hS9; have HS := hide hS9; clear hS9; (try simp only [Act.put, nq1, nq2, nq3, nq4, nq5, nq6])) | (refine wl_loadP rfl rfl rfl HS.out (.tail _ (.tail _ (.head _))) rowE (.all (by first | exact EA.arr ‹_› | exact arr_zE)) ?_; (try simp only [Act.put, nq1, nq2, nq3, nq4, nq5, nq6])) | (refine wl_storeR rfl rfl rfl rfl HS.out rowP (.head) (by first | exact arr_zP | exact PtN.arr ‹_› | exact PtV.arr ‹_› | exact qE ‹_› ‹_› ‹_› ‹_›) (by first | exact arr_zP | exact PtN.arr ‹_› | exact PtV.arr ‹_› | exact qE ‹_› ‹_› ‹_› ‹_›) ?_; intro wz hS9; have HS := hide hS9; clear hS9; (try simp only [Act.put, nq1, nq2, nq3, nq4, nq5, nq6])) | (refine wl_loadP rfl rfl rfl HS.out (.head _) rowP (.all (by first | exact arr_zP | exact PtN.arr ‹_› | exact PtV.arr ‹_› | exact qE ‹_› ‹_› ‹_› ‹_›)) ?_; (try simp only [Act.put, nq1, nq2, nq3, nq4, nq5, nq6])) | (refine wl_storeR rfl rfl rfl rfl HS.out rowP (.tail (.tail (.tail (.tail (.tail (.tail (.head))))))) (by first | exact arr_zP | exact PtN.arr ‹_› | exact PtV.arr ‹_› | exact qE ‹_› ‹_› ‹_› ‹_›) (by first | exact arr_zP | exact PtN.arr ‹_› | exact PtV.arr ‹_› | exact qE ‹_› ‹_› ‹_› ‹_›) ?_; intro wz hS9; have HS := hide hS9; clear hS9; (try simp only [Act.put, nq1, nq2, nq3, nq4, nq5, nq6])) | (refine wl_loadP rfl rfl rfl HS.out (.tail _ (.head _)) rowP (.all (by first | exact arr_zP | exact PtN.arr ‹_› | exact PtV.arr ‹_› | exact qE ‹_› ‹_› ‹_› ‹_›)) ?_; (try simp only [Act.put, nq1, nq2, nq3, nq4, nq5, nq6])) | (refine wl_allocR rfl rfl HS.out newP ?_; intro gz wz hS9; have HS := hide hS9; clear hS9; (try simp only [Act.put, nq1, nq2, nq3, nq4, nq5, nq6])))
        refine bodyPost_ret (results_cell_tmp_row rfl _ _ _ _ _ _ _ rfl (HS.out.heapM (by (repeat first | exact .head _ | apply List.Mem.tail))) Tryz.underlying63 rfl (by first | (rw [(EA.arr ‹_›).size]; kernel_rfl) | (rw [(NA.arr ‹_›).size]; kernel_rfl) | (rw [(qE ‹_› ‹_› ‹_› ‹_›).size]; kernel_rfl) | (rw [(qN ‹_› ‹_› ‹_› ‹_›).size]; kernel_rfl) | (rw [(PtN.arr ‹_›).size]; kernel_rfl) | (rw [(PtV.arr ‹_›).size]; kernel_rfl) | (rw [(QtN.arr ‹_›).size]; kernel_rfl))) rfl ?_
        rw [HFK.out]
        exact ⟨_, hzpt, rfl, HS.out.below⟩
theorem from_any {A : Option Addr} {n c : Nat} {l : List UInt8} (w : World) (hl : l.length = n) (hr : Rd w (.slice A n c) 1 n (bvs l)) : Calls Tryz.prog 38 #[.slice A n c] w (ResF w (fromL l)) := by
  by_cases h : n = 32
  · subst h
    exact from_32 w hl hr
  · exact from_no w hl h
theorem from_none {A : Option Addr} {n c : Nat} {l : List UInt8} (w : World) (h : fromL l = none) (hl : l.length = n) (hr : Rd w (.slice A n c) 1 n (bvs l)) : Calls Tryz.prog 38 #[.slice A n c] w fun e w' => ∃ v, PtV v .zero ∧ e = .returned (.tuple #[.agg v, .bool false]) ∧ Below w.heap.size w w' := by
  have := from_any w hl hr
  rw [h] at this
  exact this
theorem from_some {A : Option Addr} {n c : Nat} {l : List UInt8} {P : Ed} (w : World) (h : fromL l = some P) (hl : l.length = n) (hr : Rd w (.slice A n c) 1 n (bvs l)) : Calls Tryz.prog 38 #[.slice A n c] w fun e w' => ∃ v, PtV v P ∧ e = .returned (.tuple #[.agg v, .bool true]) ∧ Below w.heap.size w w' := by
  have := from_any w hl hr
  rw [h] at this
  exact this
end Go.Proofs.YtnohmgpmmhlloaaGreatDoor

namespace Go.Proofs.YtnohmgpmmhlloaaGreatDoor.S3
open Go.RowKit

theorem sub64_run0 (x y : Nat) (w : World) : (callFunc 129 #[.int .u64 (x : Int), .int .u64 (y : Int), .int .u64 ((0 : Nat) : Int)]).run Tryz.prog w =
    .ok (.value (.tuple #[.int .u64 (((x + 18446744073709551616 - y - 0) % 18446744073709551616 : Nat) : Int), .int .u64 ((if x < y + 0 then 1 else 0 : Nat) : Int)])) w := by kernel_rfl
theorem sub64_run1 (x y : Nat) (w : World) : (callFunc 129 #[.int .u64 (x : Int), .int .u64 (y : Int), .int .u64 ((1 : Nat) : Int)]).run Tryz.prog w =
    .ok (.value (.tuple #[.int .u64 (((x + 18446744073709551616 - y - 1) % 18446744073709551616 : Nat) : Int), .int .u64 ((if x < y + 1 then 1 else 0 : Nat) : Int)])) w := by kernel_rfl
theorem sub64_run (x y b : Nat) (hb : b ≤ 1) (w : World) : (callFunc 129 #[.int .u64 (x : Int), .int .u64 (y : Int), .int .u64 (b : Int)]).run Tryz.prog w =
    .ok (.value (.tuple #[.int .u64 (((x + 18446744073709551616 - y - b) % 18446744073709551616 : Nat) : Int), .int .u64 ((if x < y + b then 1 else 0 : Nat) : Int)])) w := by
  have : b = 0 ∨ b = 1 := by omega
  rcases this with h | h
  · rw [h]; exact sub64_run0 x y w
  · rw [h]; exact sub64_run1 x y w
theorem sub_any (x y b : Nat) (hb : b ≤ 1) : ∀ w, (callFunc 129 #[.int .u64 (x : Int), .int .u64 (y : Int), .int .u64 (b : Int)]).run Tryz.prog w = .ok (.value (.tuple #[.int .u64 (sbD x y b : Int), .int .u64 (sbB x y b : Int)])) w := fun w => by
  have := sub64_run x y b hb w
  unfold sbD sbB
  exact this
def numA (xs : List Nat) : Value := .agg (uvs xs).toArray

def LessRel (w : World) (g2 g3 : Nat) (H : List Chunk) (xs ys : List Nat) (bo i : Value) (wr : World) : Prop :=
  ∃ (k b : Nat) (cur : List Nat), k ≤ 4 ∧ i = .int .i64 (k : Int) ∧ bo = .int .u64 (b : Int) ∧ b ≤ 1 ∧ cur.length = 4 ∧ Words cur ∧ cur.drop k = xs.drop k ∧
    lv (cur.take k) + lv (ys.take k) + 0 = lv (xs.take k) + b * 18446744073709551616 ^ k ∧ St w NoB wr (.cells g2 (uvs cur).toArray 120 :: .cells g3 (uvs ys).toArray 120 :: H)
theorem less_step (xs ys cur : List Nat) (k b x y : Nat) (hk : k < 4) (hl : cur.length = 4) (hx : xs[k]? = some x) (hy : ys[k]? = some y) (hx2 : x < 18446744073709551616) (hy2 : y < 18446744073709551616) (hb : b ≤ 1)
    (h : lv (cur.take k) + lv (ys.take k) + 0 = lv (xs.take k) + b * 18446744073709551616 ^ k) :
    lv ((cur.set k (sbD x y b)).take (k + 1)) + lv (ys.take (k + 1)) + 0 = lv (xs.take (k + 1)) + sbB x y b * 18446744073709551616 ^ (k + 1) := by
  obtain ⟨h1, _, _⟩ := sb_spec x y b hx2 hy2 hb
  rw [lv_take_set cur k _ (by omega), lv_take hx, lv_take hy, Nat.pow_succ]
  have h2 := congrArg (· * 18446744073709551616 ^ k) h1
  simp only [Nat.add_mul] at h2
  rw [show sbB x y b * (18446744073709551616 ^ k * 18446744073709551616) = sbB x y b * 18446744073709551616 * 18446744073709551616 ^ k from by rw [Nat.mul_comm (18446744073709551616 ^ k), Nat.mul_assoc]]
  omega
set_option maxRecDepth 100000 in
set_option maxHeartbeats 800000 in
theorem less_walk (xs ys : List Nat) (w : World) (hxl : xs.length = 4) (hyl : ys.length = 4) (hxw : Words xs) (hyw : Words ys) :
    Calls Tryz.prog 93 #[numA xs, numA ys] w fun e w' => ∃ rs : List Nat, rs.length = 4 ∧ Words rs ∧ ∃ b : Nat, b ≤ 1 ∧ lv rs + lv ys = lv xs + b * 18446744073709551616 ^ 4 ∧
      e = .returned (.tuple #[numA rs, .bool (decide (0 < b))]) ∧ Below w.heap.size w w' := by
  unfold numA
  have hS0 := (((St.init w NoB).alloc (uvs xs).toArray 120).alloc (uvs ys).toArray 120).alloc #[.int .u64 0, .int .u64 0, .int .u64 0, .int .u64 0] 120
  have HS0 := hide hS0
  have HXL := hide hxl
  have HYL := hide hyl
  have HXW := hide hxw
  have HYW := hide hyw
  clear hS0 hxl hyl hxw hyw
  go_enter Tryz.func93, Tryz.ntmps93
  go_wp2_with fail
  go_loopw [6, 8] (fun b i wr => LessRel w w.heap.size (w.heap.size + 1) [.cells (w.heap.size + 1 + 1) #[.int .u64 0, .int .u64 0, .int .u64 0, .int .u64 0] 120] xs ys b i wr) (fun _ i _ => 4 - (intOf i).toNat)
  case atStart =>
    have hS := HS0.out
    simp only [size_alloc1] at hS
    exact ⟨0, 0, xs, by omega, rfl, rfl, by omega, HXL.out, HXW.out, rfl, rfl, hS.rot3⟩
  case round =>
    obtain ⟨k, b, cur, hk, rfl, rfl, hb, hcl, hcw, hcd, hval, hS⟩ := hrel
    by_cases hlt : k < 4
    · obtain ⟨x, hx⟩ := lim_get xs HXL.out k hlt
      obtain ⟨y, hy⟩ := lim_get ys HYL.out k hlt
      have hcx : cur[k]? = some x := by
        have := congrArg (·[0]?) hcd
        simpa [List.getElem?_drop, hx] using this
      have hx2 := words_get HXW.out hx
      have hy2 := words_get HYW.out hy
      have hstep := hide (less_step xs ys cur k b x y hlt hcl hx hy hx2 hy2 hb hval)
      obtain ⟨_, hd1, hd2⟩ := sb_spec x y b hx2 hy2 hb
      have hS' := hS.drew
      have hHS := hide hS'
      have cn : ∀ z, From wr.drew z → z.cell? ⟨w.heap.size, k, none⟩ = some (.int .u64 (x : Int)) := fun z hz => by
        rw [hz.cell (p := ⟨w.heap.size, k, none⟩) (Chunk.lt (hHS.out.sat 0 _ rfl) rfl), hHS.out.cell 0 rfl k]
        exact uvs_get hcx
      have cm : ∀ z, From wr.drew z → z.cell? ⟨w.heap.size + 1, k, none⟩ = some (.int .u64 (y : Int)) := fun z hz => by
        rw [hz.cell (p := ⟨w.heap.size + 1, k, none⟩) (Chunk.lt (hHS.out.sat 1 _ rfl) rfl), hHS.out.cell 1 rfl k]
        exact uvs_get hy
      have hsub := sub_any x y b hb
      have D1 := hide hd1
      have HCD := hide hcd
      have HCW := hide hcw
      have HCL := hide hcl
      clear hS hS' hx hy hcx hx2 hy2 hval hd1 hcd hcw hcl
      go_wp2_with fail
      refine wp_region_M (fun i => i == 13) (From wr.drew) (by kernel_rfl) ?_
      (refine wpM_take (i := 0) (v := ?_) rfl (by kernel_rfl) (by kernel_rfl) (by kernel_rfl) (fun _ _ _ h => h) (From.refl _) rfl (by kernel_rfl) (Or.inl ⟨by first | kernel_rfl | rfl, ?_⟩) ?_; rotate_left; (intro wx hx; go_simp) <;> (with_reducible rfl); (try simp only [Act.put, nq1, nq2, nq3, nq4, nq5, nq6])); (refine wpM_take (i := 1) (v := ?_) rfl (by kernel_rfl) (by kernel_rfl) (by kernel_rfl) (fun _ _ _ h => h) (From.refl _) rfl (by kernel_rfl) (Or.inl ⟨by first | kernel_rfl | rfl, ?_⟩) ?_; rotate_left; (intro wx hx; go_simp) <;> (with_reducible rfl); (try simp only [Act.put, nq1, nq2, nq3, nq4, nq5, nq6])); (refine wpM_take (i := 2) (v := ?_) rfl (by kernel_rfl) (by kernel_rfl) (by kernel_rfl) (fun _ _ _ h => h) (From.refl _) rfl (by kernel_rfl) (Or.inl ⟨by first | kernel_rfl | rfl, ?_⟩) ?_; rotate_left; (intro wx hx; go_simp) <;> (with_reducible rfl); (try simp only [Act.put, nq1, nq2, nq3, nq4, nq5, nq6])); (refine wpM_take (i := 3) (v := ?_) rfl (by kernel_rfl) (by kernel_rfl) (by kernel_rfl) (fun _ _ _ h => h) (From.refl _) rfl (by kernel_rfl) (Or.inl ⟨by first | kernel_rfl | rfl, ?_⟩) ?_; rotate_left; (intro wx hx; go_simp) <;> (with_reducible rfl); (try simp only [Act.put, nq1, nq2, nq3, nq4, nq5, nq6])); (refine wpM_take (i := 4) (v := ?_) rfl (by kernel_rfl) (by kernel_rfl) (by kernel_rfl) (fun _ _ _ h => h) (From.refl _) rfl (by kernel_rfl) (Or.inl ⟨by first | kernel_rfl | rfl, ?_⟩) ?_; rotate_left; (intro wx hx; go_simp) <;> (with_reducible rfl); (try simp only [Act.put, nq1, nq2, nq3, nq4, nq5, nq6])); (refine wpM_take (i := 5) (v := ?_) rfl (by kernel_rfl) (by kernel_rfl) (by kernel_rfl) (fun _ _ _ h => h) (From.refl _) rfl (by kernel_rfl) (Or.inl ⟨by first | kernel_rfl | rfl, ?_⟩) ?_; rotate_left; (intro wx hx; go_simp) <;> (with_reducible rfl); (try simp only [Act.put, nq1, nq2, nq3, nq4, nq5, nq6])); (refine wpM_take (i := 6) (v := ?_) rfl (by kernel_rfl) (by kernel_rfl) (by kernel_rfl) (fun _ _ _ h => h) (From.refl _) rfl (by kernel_rfl) (Or.inl ⟨by first | kernel_rfl | rfl, ?_⟩) ?_; rotate_left; (intro wx hx; go_simp) <;> (with_reducible rfl); (try simp only [Act.put, nq1, nq2, nq3, nq4, nq5, nq6])); (refine wpM_take (i := 7) (v := ?_) rfl (by kernel_rfl) (by kernel_rfl) (by kernel_rfl) (fun _ _ _ h => h) (From.refl _) rfl (by kernel_rfl) (Or.inl ⟨by first | kernel_rfl | rfl, ?_⟩) ?_; rotate_left; (intro wx hx; go_simp) <;> (with_reducible rfl); (try simp only [Act.put, nq1, nq2, nq3, nq4, nq5, nq6])); (refine wpM_take (i := 8) (v := ?_) rfl (by kernel_rfl) (by kernel_rfl) (by kernel_rfl) (fun _ _ _ h => h) (From.refl _) rfl (by kernel_rfl) (Or.inl ⟨by first | kernel_rfl | rfl, ?_⟩) ?_; rotate_left; (intro wx hx; go_simp) <;> (with_reducible rfl); (try simp only [Act.put, nq1, nq2, nq3, nq4, nq5, nq6])); (refine wpM_take (i := 9) (v := ?_) rfl (by kernel_rfl) (by kernel_rfl) (by kernel_rfl) (fun _ _ _ h => h) (From.refl _) rfl (by kernel_rfl) (Or.inl ⟨by first | kernel_rfl | rfl, ?_⟩) ?_; rotate_left; (intro wx hx; go_simp) <;> (with_reducible rfl); (try simp only [Act.put, nq1, nq2, nq3, nq4, nq5, nq6])); (refine wpM_take (i := 10) (v := ?_) rfl (by kernel_rfl) (by kernel_rfl) (by kernel_rfl) (fun _ _ _ h => h) (From.refl _) rfl (by kernel_rfl) (Or.inl ⟨by first | kernel_rfl | rfl, ?_⟩) ?_; rotate_left; (intro wx hx; go_simp) <;> (with_reducible rfl); (try simp only [Act.put, nq1, nq2, nq3, nq4, nq5, nq6]))
      (refine wpM_takeU (i := 11) (v := ?_) rfl (by kernel_rfl) (by kernel_rfl) (by kernel_rfl) (fun _ _ _ h => h) (From.refl _) rfl (Or.inl ⟨by first | kernel_rfl | rfl, ?_⟩) ?_; rotate_left; (intro wx; go_simp) <;> (with_reducible rfl); (try simp only [Act.put, nq1, nq2, nq3, nq4, nq5, nq6])); (refine wpM_takeU (i := 12) (v := ?_) rfl (by kernel_rfl) (by kernel_rfl) (by kernel_rfl) (fun _ _ _ h => h) (From.refl _) rfl (Or.inl ⟨by first | kernel_rfl | rfl, ?_⟩) ?_; rotate_left; (intro wx; go_simp) <;> (with_reducible rfl); (try simp only [Act.put, nq1, nq2, nq3, nq4, nq5, nq6]))
      (refine wpM_late (i := 13) (by kernel_rfl) rfl rfl ?_; intro K hK; (try simp only [Act.put, nq1, nq2, nq3, nq4, nq5, nq6]))
      refine step_store rfl rfl tyU64 hHS.out 0 rfl k (by rw [List.size_toArray, uvs_len, HCL.out]; exact hlt) rfl (v := .int .u64 (sbD x y b : Nat)) rfl rfl ?_
      intro w2 hS2
      refine hK _ _ ?_
      clear hK K
      (try simp only [Act.put, nq1, nq2, nq3, nq4, nq5, nq6])
      (refine wpAny_take (i := 14) (v := ?_) rfl (by kernel_rfl) (by kernel_rfl) (by kernel_rfl) (fun _ _ _ h => h) (Or.inl ⟨by first | kernel_rfl | rfl, ?_⟩) ?_; rotate_left; (intro wx; go_simp) <;> (with_reducible rfl); (try simp only [Act.put, nq1, nq2, nq3, nq4, nq5, nq6]))
      refine wpAny_done (by kernel_rfl) ?_ _
      go_wp2_with fail
      go_roundw
      case rel =>
        rw [uvs_set] at hS2
        refine ⟨k + 1, sbB x y b, cur.set k (sbD x y b), by omega, by go_num, rfl, hd2, by rw [List.length_set]; exact HCL.out, words_set HCW.out k _ D1.out, ?_, hstep.out, hS2⟩
        rw [drop_set_succ, ← List.drop_drop, HCD.out, List.drop_drop]
      case measure => simp [intOf]; omega
    · obtain rfl : k = 4 := by omega
      match cur, hcl with
      | [a0, a1, a2, a3], _ =>
        have hS' : St w NoB wr [.cells w.heap.size #[.int .u64 (a0 : Int), .int .u64 (a1 : Int), .int .u64 (a2 : Int), .int .u64 (a3 : Int)] 120, .cells (w.heap.size + 1) (uvs ys).toArray 120, .cells (w.heap.size + 1 + 1) #[.int .u64 0, .int .u64 0, .int .u64 0, .int .u64 0] 120] := hS
        have n0 : wr.cell? ⟨w.heap.size, 0, none⟩ = some (.int .u64 (a0 : Int)) := hS'.cell 0 rfl 0
        have n1 : wr.cell? ⟨w.heap.size, 1, none⟩ = some (.int .u64 (a1 : Int)) := hS'.cell 0 rfl 1
        have n2 : wr.cell? ⟨w.heap.size, 2, none⟩ = some (.int .u64 (a2 : Int)) := hS'.cell 0 rfl 2
        have n3 : wr.cell? ⟨w.heap.size, 3, none⟩ = some (.int .u64 (a3 : Int)) := hS'.cell 0 rfl 3
        have r0 : wr.cell? ⟨w.heap.size + 1 + 1, 0, none⟩ = some (.int .u64 0) := hS'.cell 2 rfl 0
        have r1 : wr.cell? ⟨w.heap.size + 1 + 1, 1, none⟩ = some (.int .u64 0) := hS'.cell 2 rfl 1
        have r2 : wr.cell? ⟨w.heap.size + 1 + 1, 2, none⟩ = some (.int .u64 0) := hS'.cell 2 rfl 2
        have r3 : wr.cell? ⟨w.heap.size + 1 + 1, 3, none⟩ = some (.int .u64 0) := hS'.cell 2 rfl 3
        have f0 := hS'.free 2 rfl 0
        have f1 := hS'.free 2 rfl 1
        have f2 := hS'.free 2 rfl 2
        have f3 := hS'.free 2 rfl 3
        have HS := hide ((((hS'.setCell 2 rfl 0 (.int .u64 (a0 : Int))).setCell 2 rfl 1 (.int .u64 (a1 : Int))).setCell 2 rfl 2 (.int .u64 (a2 : Int))).setCell 2 rfl 3 (.int .u64 (a3 : Int)))
        have HV := hide hval
        have HW := hide hcw
        clear hS hS' hval hcd hcw
        go_wp2_with fail
        refine bodyPost_ret (results_cell_tmp_row rfl _ _ (w.heap.size + 1 + 1) _ _ _ _ rfl (HS.out.heap 2 rfl) Tryz.underlying120 rfl (by kernel_rfl)) rfl ?_
        refine ⟨[a0, a1, a2, a3], rfl, HW.out, b, hb, ?_, ?_, HS.out.below⟩
        · have := HV.out
          rw [List.take_of_length_le (by simp), List.take_of_length_le (by rw [HYL.out]; omega), List.take_of_length_le (by rw [HXL.out]; omega)] at this
          omega
        · rfl
end Go.Proofs.YtnohmgpmmhlloaaGreatDoor.S3

namespace Go.Proofs.YtnohmgpmmhlloaaGreatDoor.S3
open Go.RowKit

@[irreducible] def o0 : Nat := 6346243789798364141
@[irreducible] def o1 : Nat := 1503914060200516822
@[irreducible] def o2 : Nat := 0
@[irreducible] def o3 : Nat := 1152921504606846976
@[irreducible] def Lq : Nat := 7237005577332262213973186563042994240857116359379907606001950938285454250989
theorem ord_words : Words [o0, o1, o2, o3] := by unfold o0 o1 o2 o3 Words; decide
theorem lv_ord : lv [o0, o1, o2, o3] = Lq := by unfold o0 o1 o2 o3 Lq; decide
theorem Lq_lt : 2 * Lq < 18446744073709551616 ^ 4 ∧ 0 < Lq := by unfold Lq; decide
theorem enOrder (args : Array Value) (w : World) : (callFunc 94 args).run Tryz.prog w = .ok (.enter 94 args) w := by kernel_rfl
theorem enLess (args : Array Value) (w : World) : (callFunc 93 args).run Tryz.prog w = .ok (.enter 93 args) w := by kernel_rfl
set_option maxRecDepth 100000 in
set_option maxHeartbeats 800000 in
theorem order_any (w : World) : Calls Tryz.prog 94 #[] w fun e w' => e = .returned (.agg #[.int .u64 (o0 : Int), .int .u64 (o1 : Int), .int .u64 (o2 : Int), .int .u64 (o3 : Int)]) ∧ Below w.heap.size w w' := by
  have hS := (St.init w NoB).alloc #[.int .u64 6346243789798364141, .int .u64 1503914060200516822, .int .u64 0, .int .u64 1152921504606846976] 120
  have HS := hide hS
  clear hS
  go_enter Tryz.func94, Tryz.ntmps94
  go_wp2_with fail
  refine bodyPost_ret (results_cell_row rfl _ _ w.heap.size _ _ _ _ rfl (HS.out.heap 0 rfl) Tryz.underlying120 rfl (by kernel_rfl)) rfl ?_
  exact ⟨by unfold o0 o1 o2 o3; rfl, HS.out.below⟩
theorem less_any (a0 a1 a2 a3 b0 b1 b2 b3 : Nat) (w : World) (ha : Words [a0, a1, a2, a3]) (hb : Words [b0, b1, b2, b3]) :
    Calls Tryz.prog 93 #[.agg #[.int .u64 (a0 : Int), .int .u64 (a1 : Int), .int .u64 (a2 : Int), .int .u64 (a3 : Int)], .agg #[.int .u64 (b0 : Int), .int .u64 (b1 : Int), .int .u64 (b2 : Int), .int .u64 (b3 : Int)]] w fun e w' =>
      ∃ r0 r1 r2 r3 b : Nat, Words [r0, r1, r2, r3] ∧ b ≤ 1 ∧ lv [r0, r1, r2, r3] + lv [b0, b1, b2, b3] = lv [a0, a1, a2, a3] + b * 18446744073709551616 ^ 4 ∧
        e = .returned (.tuple #[.agg #[.int .u64 (r0 : Int), .int .u64 (r1 : Int), .int .u64 (r2 : Int), .int .u64 (r3 : Int)], .bool (decide (0 < b))]) ∧ Below w.heap.size w w' := by
  refine (less_walk [a0, a1, a2, a3] [b0, b1, b2, b3] w rfl rfl ha hb).mono ?_
  rintro e w' ⟨rs, hrl, hrw, b, hb1, hv, rfl, hbl⟩
  match rs, hrl with
  | [r0, r1, r2, r3], _ => exact ⟨r0, r1, r2, r3, b, hrw, hb1, hv, rfl, hbl⟩

@[irreducible] def dbW (x b : Nat) : Nat := 2 * x % 18446744073709551616 + b
@[irreducible] def dbH (x : Nat) : Nat := x / 9223372036854775808
theorem db_spec (x b : Nat) (hx : x < 18446744073709551616) (hb : b ≤ 1) : dbW x b + dbH x * 18446744073709551616 = 2 * x + b ∧ dbW x b < 18446744073709551616 ∧ dbH x ≤ 1 := by
  unfold dbW dbH
  omega
theorem or_db (x b : Nat) (hx : x < 18446744073709551616) (hb : b ≤ 1) : bits .or .u64 (IntKind.u64.wrap ((x : Int) * 2)) (b : Int) = ((dbW x b : Nat) : Int) := by
  have e : IntKind.u64.wrap ((x : Int) * 2) = ((2 * x % 18446744073709551616 : Nat) : Int) := by rw [IntKind.wrap_u64]; omega
  rw [e, u64_or_nat _ _ (by omega) (by omega)]
  unfold dbW
  congr 1
  have h1 : 2 * x % 18446744073709551616 % 2 = 0 := by omega
  have := nat_join 1 (2 * x % 18446744073709551616) b h1 (by omega)
  exact this
def NextRel (w : World) (g : Nat) (H : List Chunk) (xs : List Nat) (bit : Nat) (bv i : Value) (wr : World) : Prop :=
  ∃ (k b : Nat) (cur : List Nat), k ≤ 4 ∧ i = .int .i64 (k : Int) ∧ bv = .int .u64 (b : Int) ∧ b ≤ 1 ∧ cur.length = 4 ∧ Words cur ∧ cur.drop k = xs.drop k ∧
    lv (cur.take k) + b * 18446744073709551616 ^ k = 2 * lv (xs.take k) + bit ∧ St w NoB wr (.cells g (uvs cur).toArray 120 :: H)
theorem next_step (xs cur : List Nat) (k b bit x : Nat) (hk : k < 4) (hl : cur.length = 4) (hx : xs[k]? = some x) (hx2 : x < 18446744073709551616) (hb : b ≤ 1)
    (h : lv (cur.take k) + b * 18446744073709551616 ^ k = 2 * lv (xs.take k) + bit) :
    lv ((cur.set k (dbW x b)).take (k + 1)) + dbH x * 18446744073709551616 ^ (k + 1) = 2 * lv (xs.take (k + 1)) + bit := by
  obtain ⟨h1, _, _⟩ := db_spec x b hx2 hb
  rw [lv_take_set cur k _ (by omega), lv_take hx, Nat.pow_succ]
  have h2 := congrArg (· * 18446744073709551616 ^ k) h1
  simp only [Nat.add_mul] at h2
  rw [show dbH x * (18446744073709551616 ^ k * 18446744073709551616) = dbH x * 18446744073709551616 * 18446744073709551616 ^ k from by rw [Nat.mul_comm (18446744073709551616 ^ k), Nat.mul_assoc]]
  rw [Nat.mul_assoc 2 x] at h2
  omega
def ResNum (w : World) (v : Nat) (e : Ending) (w' : World) : Prop := ∃ rs : List Nat, rs.length = 4 ∧ Words rs ∧ lv rs = v ∧ e = .returned (numA rs) ∧ Below w.heap.size w w'
theorem next_end (xs cur rs : List Nat) (b bo bit : Nat) (hx : lv xs < Lq) (hbit : bit ≤ 1) (hc : Words cur) (hcl : cur.length = 4) (hr : Words rs) (hrl : rs.length = 4)
    (h : lv cur + b * 18446744073709551616 ^ 4 = 2 * lv xs + bit) (h2 : lv rs + Lq = lv cur + bo * 18446744073709551616 ^ 4) (hbo : bo ≤ 1) :
    (0 < bo → lv cur = (2 * lv xs + bit) % Lq) ∧ (bo = 0 → lv rs = (2 * lv xs + bit) % Lq) := by
  have hL := Lq_lt
  have h3 := lv_lt cur hc
  have h4 := lv_lt rs hr
  rw [hcl] at h3
  rw [hrl] at h4
  generalize hB : 18446744073709551616 ^ 4 = B at *
  have hb0 : b = 0 := by
    rcases Nat.eq_zero_or_pos b with h | h
    · exact h
    · have : B ≤ b * B := Nat.le_mul_of_pos_left B h
      omega
  subst hb0
  refine ⟨fun hp => ?_, fun hp => ?_⟩
  · have : bo = 1 := by omega
    subst this
    rw [Nat.mod_eq_of_lt (by omega)]
    omega
  · subst hp
    have e : 2 * lv xs + bit = lv rs + Lq := by omega
    rw [e, Nat.add_mod_right, Nat.mod_eq_of_lt (by omega)]
set_option maxRecDepth 100000 in
set_option maxHeartbeats 800000 in
theorem next_walk (xs : List Nat) (bit : Nat) (w : World) (hxl : xs.length = 4) (hxw : Words xs) (hx : lv xs < Lq) (hbit : bit ≤ 1) :
    Calls Tryz.prog 132 #[numA xs, .int .u64 (bit : Int)] w (ResNum w ((2 * lv xs + bit) % Lq)) := by
  have EN := next_end xs
  unfold numA
  have hS0 := ((St.init w NoB).alloc (uvs xs).toArray 120).alloc #[.int .u64 0, .int .u64 0, .int .u64 0, .int .u64 0] 120
  have HS0 := hide hS0
  have HXL := hide hxl
  have HXW := hide hxw
  have HEN := hide EN
  have HX := hide hx
  clear hS0 hxl hxw EN hx
  go_enter Tryz.func132, Tryz.ntmps132
  go_wp2_with fail
  go_loopw [1, 8] (fun b i wr => NextRel w w.heap.size [.cells (w.heap.size + 1) #[.int .u64 0, .int .u64 0, .int .u64 0, .int .u64 0] 120] xs bit b i wr) (fun _ i _ => 4 - (intOf i).toNat)
  case atStart =>
    have hS := HS0.out
    simp only [size_alloc1] at hS
    exact ⟨0, bit, xs, by omega, rfl, rfl, hbit, HXL.out, HXW.out, rfl, by simp [lv], hS.swap⟩
  case round =>
    obtain ⟨k, b, cur, hk, rfl, rfl, hb, hcl, hcw, hcd, hval, hS⟩ := hrel
    by_cases hlt : k < 4
    · obtain ⟨x, hx⟩ := lim_get xs HXL.out k hlt
      have hcx : cur[k]? = some x := by
        have := congrArg (·[0]?) hcd
        simpa [List.getElem?_drop, hx] using this
      have hx2 := words_get HXW.out hx
      have hstep := hide (next_step xs cur k b bit x hlt hcl hx hx2 hb hval)
      obtain ⟨_, hd1, hd2⟩ := db_spec x b hx2 hb
      have hS' := hS.drew
      have hHS := hide hS'
      have cn : ∀ z, From wr.drew z → z.cell? ⟨w.heap.size, k, none⟩ = some (.int .u64 (x : Int)) := fun z hz => by
        rw [hz.cell (p := ⟨w.heap.size, k, none⟩) (Chunk.lt (hHS.out.sat 0 _ rfl) rfl), hHS.out.cell 0 rfl k]
        exact uvs_get hcx
      have hor := or_db x b hx2 hb
      have hsh : (x : Int) / 9223372036854775808 = ((dbH x : Nat) : Int) := by unfold dbH; omega
      have D1 := hide hd1
      have HCD := hide hcd
      have HCW := hide hcw
      have HCL := hide hcl
      clear hS hS' hx hcx hx2 hval hd1 hcd hcw hcl
      go_wp2_with fail
      refine wp_region_M (fun i => i == 12) (From wr.drew) (by kernel_rfl) ?_
      (refine wpM_take (i := 0) (v := ?_) rfl (by kernel_rfl) (by kernel_rfl) (by kernel_rfl) (fun _ _ _ h => h) (From.refl _) rfl (by kernel_rfl) (Or.inl ⟨by first | kernel_rfl | rfl, ?_⟩) ?_; rotate_left; (intro wx hx; go_simp) <;> (with_reducible rfl); (try simp only [Act.put, nq1, nq2, nq3, nq4, nq5, nq6])); (refine wpM_take (i := 1) (v := ?_) rfl (by kernel_rfl) (by kernel_rfl) (by kernel_rfl) (fun _ _ _ h => h) (From.refl _) rfl (by kernel_rfl) (Or.inl ⟨by first | kernel_rfl | rfl, ?_⟩) ?_; rotate_left; (intro wx hx; go_simp) <;> (with_reducible rfl); (try simp only [Act.put, nq1, nq2, nq3, nq4, nq5, nq6])); (refine wpM_take (i := 2) (v := ?_) rfl (by kernel_rfl) (by kernel_rfl) (by kernel_rfl) (fun _ _ _ h => h) (From.refl _) rfl (by kernel_rfl) (Or.inl ⟨by first | kernel_rfl | rfl, ?_⟩) ?_; rotate_left; (intro wx hx; go_simp) <;> (with_reducible rfl); (try simp only [Act.put, nq1, nq2, nq3, nq4, nq5, nq6])); (refine wpM_take (i := 3) (v := ?_) rfl (by kernel_rfl) (by kernel_rfl) (by kernel_rfl) (fun _ _ _ h => h) (From.refl _) rfl (by kernel_rfl) (Or.inl ⟨by first | kernel_rfl | rfl, ?_⟩) ?_; rotate_left; (intro wx hx; go_simp) <;> (with_reducible rfl); (try simp only [Act.put, nq1, nq2, nq3, nq4, nq5, nq6])); (refine wpM_take (i := 4) (v := ?_) rfl (by kernel_rfl) (by kernel_rfl) (by kernel_rfl) (fun _ _ _ h => h) (From.refl _) rfl (by kernel_rfl) (Or.inl ⟨by first | kernel_rfl | rfl, ?_⟩) ?_; rotate_left; (intro wx hx; go_simp) <;> (with_reducible rfl); (try simp only [Act.put, nq1, nq2, nq3, nq4, nq5, nq6])); (refine wpM_take (i := 5) (v := ?_) rfl (by kernel_rfl) (by kernel_rfl) (by kernel_rfl) (fun _ _ _ h => h) (From.refl _) rfl (by kernel_rfl) (Or.inl ⟨by first | kernel_rfl | rfl, ?_⟩) ?_; rotate_left; (intro wx hx; go_simp) <;> (with_reducible rfl); (try simp only [Act.put, nq1, nq2, nq3, nq4, nq5, nq6])); (refine wpM_take (i := 6) (v := ?_) rfl (by kernel_rfl) (by kernel_rfl) (by kernel_rfl) (fun _ _ _ h => h) (From.refl _) rfl (by kernel_rfl) (Or.inl ⟨by first | kernel_rfl | rfl, ?_⟩) ?_; rotate_left; (intro wx hx; go_simp) <;> (with_reducible rfl); (try simp only [Act.put, nq1, nq2, nq3, nq4, nq5, nq6]))
      (refine wpM_takeU (i := 7) (v := ?_) rfl (by kernel_rfl) (by kernel_rfl) (by kernel_rfl) (fun _ _ _ h => h) (From.refl _) rfl (Or.inl ⟨by first | kernel_rfl | rfl, ?_⟩) ?_; rotate_left; (intro wx; go_simp) <;> (with_reducible rfl); (try simp only [Act.put, nq1, nq2, nq3, nq4, nq5, nq6]))
      (refine wpM_take (i := 8) (v := ?_) rfl (by kernel_rfl) (by kernel_rfl) (by kernel_rfl) (fun _ _ _ h => h) (From.refl _) rfl (by kernel_rfl) (Or.inl ⟨by first | kernel_rfl | rfl, ?_⟩) ?_; rotate_left; (intro wx hx; go_simp) <;> (with_reducible rfl); (try simp only [Act.put, nq1, nq2, nq3, nq4, nq5, nq6])); (refine wpM_take (i := 9) (v := ?_) rfl (by kernel_rfl) (by kernel_rfl) (by kernel_rfl) (fun _ _ _ h => h) (From.refl _) rfl (by kernel_rfl) (Or.inl ⟨by first | kernel_rfl | rfl, ?_⟩) ?_; rotate_left; (intro wx hx; go_simp) <;> (with_reducible rfl); (try simp only [Act.put, nq1, nq2, nq3, nq4, nq5, nq6]))
      (refine wpM_takeU (i := 10) (v := ?_) rfl (by kernel_rfl) (by kernel_rfl) (by kernel_rfl) (fun _ _ _ h => h) (From.refl _) rfl (Or.inl ⟨by first | kernel_rfl | rfl, ?_⟩) ?_; rotate_left; (intro wx; go_simp) <;> (with_reducible rfl); (try simp only [Act.put, nq1, nq2, nq3, nq4, nq5, nq6])); (refine wpM_takeU (i := 11) (v := ?_) rfl (by kernel_rfl) (by kernel_rfl) (by kernel_rfl) (fun _ _ _ h => h) (From.refl _) rfl (Or.inl ⟨by first | kernel_rfl | rfl, ?_⟩) ?_; rotate_left; (intro wx; go_simp) <;> (with_reducible rfl); (try simp only [Act.put, nq1, nq2, nq3, nq4, nq5, nq6]))
      (refine wpM_late (i := 12) (by kernel_rfl) rfl rfl ?_; intro K hK; (try simp only [Act.put, nq1, nq2, nq3, nq4, nq5, nq6]))
      refine step_store rfl rfl tyU64 hHS.out 0 rfl k (by rw [List.size_toArray, uvs_len, HCL.out]; exact hlt) rfl (v := .int .u64 (dbW x b : Nat)) rfl rfl ?_
      intro w2 hS2
      refine hK _ _ ?_
      clear hK K
      (try simp only [Act.put, nq1, nq2, nq3, nq4, nq5, nq6])
      (refine wpAny_take (i := 13) (v := ?_) rfl (by kernel_rfl) (by kernel_rfl) (by kernel_rfl) (fun _ _ _ h => h) (Or.inl ⟨by first | kernel_rfl | rfl, ?_⟩) ?_; rotate_left; (intro wx; go_simp) <;> (with_reducible rfl); (try simp only [Act.put, nq1, nq2, nq3, nq4, nq5, nq6]))
      refine wpAny_done (by kernel_rfl) ?_ _
      go_wp2_with fail
      go_roundw
      case rel =>
        rw [uvs_set] at hS2
        refine ⟨k + 1, dbH x, cur.set k (dbW x b), by omega, by go_num, rfl, hd2, by rw [List.length_set]; exact HCL.out, words_set HCW.out k _ D1.out, ?_, hstep.out, hS2⟩
        rw [drop_set_succ, ← List.drop_drop, HCD.out, List.drop_drop]
      case measure => simp [intOf]; omega
    · obtain rfl : k = 4 := by omega
      match cur, hcl with
      | [a0, a1, a2, a3], hcl =>
        have hS' : St w NoB wr [.cells w.heap.size #[.int .u64 (a0 : Int), .int .u64 (a1 : Int), .int .u64 (a2 : Int), .int .u64 (a3 : Int)] 120, .cells (w.heap.size + 1) #[.int .u64 0, .int .u64 0, .int .u64 0, .int .u64 0] 120] := hS
        have HV := hide hval
        have HW := hide hcw
        have HCL := hide hcl
        have hz0 : w.heap.size < wr.heap.size := Chunk.lt (hS'.sat 0 _ rfl) rfl
        have hz1 : w.heap.size + 1 < wr.heap.size := Chunk.lt (hS'.sat 1 _ rfl) rfl
        have hz0a : w.heap.size ≤ wr.heap.size := by omega
        have hz0b : w.heap.size < wr.heap.size + 1 := by omega
        clear hS hval hcd hcw hcl
        go_upto_region 6 with fail
        go_cut [6, 7] (fun p q wx => ∃ g6 r0 r1 r2 r3 bo : Nat, p = .pointer (some ⟨g6, 0, none⟩) ∧ q = .bool (decide (0 < bo)) ∧ Words [r0, r1, r2, r3] ∧ bo ≤ 1 ∧ lv [r0, r1, r2, r3] + lv [o0, o1, o2, o3] = lv [a0, a1, a2, a3] + bo * 18446744073709551616 ^ 4 ∧
          St w NoB wx [.cells g6 #[.int .u64 (r0 : Int), .int .u64 (r1 : Int), .int .u64 (r2 : Int), .int .u64 (r3 : Int)] 120, .cells w.heap.size #[.int .u64 (a0 : Int), .int .u64 (a1 : Int), .int .u64 (a2 : Int), .int .u64 (a3 : Int)] 120, .cells (w.heap.size + 1) #[.int .u64 0, .int .u64 0, .int .u64 0, .int .u64 0] 120])
        case first =>
          have hS1 := hS'.drew
          have hSd := hide hS1
          have n0 : ∀ z, From wr.drew z → z.cell? ⟨w.heap.size, 0, none⟩ = some (.int .u64 (a0 : Int)) := fun z hz => by
            rw [hz.cell (p := ⟨w.heap.size, 0, none⟩) (Chunk.lt (hSd.out.sat 0 _ rfl) rfl)]; exact hSd.out.cell 0 rfl 0
          have n1 : ∀ z, From wr.drew z → z.cell? ⟨w.heap.size, 1, none⟩ = some (.int .u64 (a1 : Int)) := fun z hz => by
            rw [hz.cell (p := ⟨w.heap.size, 1, none⟩) (Chunk.lt (hSd.out.sat 0 _ rfl) rfl)]; exact hSd.out.cell 0 rfl 1
          have n2 : ∀ z, From wr.drew z → z.cell? ⟨w.heap.size, 2, none⟩ = some (.int .u64 (a2 : Int)) := fun z hz => by
            rw [hz.cell (p := ⟨w.heap.size, 2, none⟩) (Chunk.lt (hSd.out.sat 0 _ rfl) rfl)]; exact hSd.out.cell 0 rfl 2
          have n3 : ∀ z, From wr.drew z → z.cell? ⟨w.heap.size, 3, none⟩ = some (.int .u64 (a3 : Int)) := fun z hz => by
            rw [hz.cell (p := ⟨w.heap.size, 3, none⟩) (Chunk.lt (hSd.out.sat 0 _ rfl) rfl)]; exact hSd.out.cell 0 rfl 3
          refine wp_region_M (fun i => i == 7) (From wr.drew) (by kernel_rfl) ?_
          (refine wpM_take (i := 0) (v := ?_) rfl (by kernel_rfl) (by kernel_rfl) (by kernel_rfl) (fun _ _ _ h => h) (From.refl _) rfl (by kernel_rfl) (Or.inl ⟨by first | kernel_rfl | rfl, ?_⟩) ?_; rotate_left; (intro wx hx; go_simp) <;> (with_reducible rfl); (try simp only [Act.put, nq1, nq2, nq3, nq4, nq5, nq6]))
          refine wpM_two (i := 1) (j := 6) (by kernel_rfl) rfl rfl rfl rfl ?_ ?_ <;> intro K hK <;> (try simp only [Act.put, nq1, nq2, nq3, nq4, nq5, nq6])
          · refine step_call rfl rfl enOrder rfl (order_any _) ?_
            rintro e w2 ⟨rfl, hb2⟩
            have hS1 := hS1.call hb2
            refine ⟨_, rfl, hK (From w2) _ _ (From.next hb2) (From.refl _) ?_⟩
            clear hK K
            (try simp only [Act.put, nq1, nq2, nq3, nq4, nq5, nq6])
            refine wpM_two (i := 2) (j := 6) (by kernel_rfl) rfl rfl rfl rfl ?_ ?_ <;> intro K hK <;> (try simp only [Act.put, nq1, nq2, nq3, nq4, nq5, nq6])
            · refine step_call rfl rfl enLess rfl (less_any a0 a1 a2 a3 _ _ _ _ _ HW.out ord_words) ?_
              rintro e w3 ⟨r0, r1, r2, r3, bo, hrw, hbo, hrv, rfl, hb3⟩
              have hS1 := hS1.call hb3
              refine ⟨_, rfl, hK (From w3) _ _ (From.next hb3) (From.refl _) ?_⟩
              clear hK K
              (try simp only [Act.put, nq1, nq2, nq3, nq4, nq5, nq6])
              (refine wpM_takeU (i := 3) (v := ?_) rfl (by kernel_rfl) (by kernel_rfl) (by kernel_rfl) (fun _ _ _ h => h) (From.refl _) rfl (Or.inl ⟨by first | kernel_rfl | rfl, ?_⟩) ?_; rotate_left; (intro wx; go_simp) <;> (with_reducible rfl); (try simp only [Act.put, nq1, nq2, nq3, nq4, nq5, nq6])); (refine wpM_takeU (i := 4) (v := ?_) rfl (by kernel_rfl) (by kernel_rfl) (by kernel_rfl) (fun _ _ _ h => h) (From.refl _) rfl (Or.inl ⟨by first | kernel_rfl | rfl, ?_⟩) ?_; rotate_left; (intro wx; go_simp) <;> (with_reducible rfl); (try simp only [Act.put, nq1, nq2, nq3, nq4, nq5, nq6])); (refine wpM_takeU (i := 5) (v := ?_) rfl (by kernel_rfl) (by kernel_rfl) (by kernel_rfl) (fun _ _ _ h => h) (From.refl _) rfl (Or.inl ⟨by first | kernel_rfl | rfl, ?_⟩) ?_; rotate_left; (intro wx; go_simp) <;> (with_reducible rfl); (try simp only [Act.put, nq1, nq2, nq3, nq4, nq5, nq6]))
              (refine wpM_one (i := 6) (by kernel_rfl) rfl rfl ?_; intro K hK; (try simp only [Act.put, nq1, nq2, nq3, nq4, nq5, nq6]))
              refine step_alloc (zs := #[.int .u64 0, .int .u64 0, .int .u64 0, .int .u64 0]) (e := 120) rfl (fun _ => by go_simp) hS1 ?_
              intro g6 wa hS1 hba
              refine hK (From wa) _ _ (From.next hba) (From.refl _) ?_
              clear hK K
              (try simp only [Act.put, nq1, nq2, nq3, nq4, nq5, nq6])
              (refine wpM_late (i := 7) (by kernel_rfl) rfl rfl ?_; intro K hK; (try simp only [Act.put, nq1, nq2, nq3, nq4, nq5, nq6]))
              refine step_storeRow rfl rfl hS1 0 rfl rfl (cs := #[.int .u64 (r0 : Int), .int .u64 (r1 : Int), .int .u64 (r2 : Int), .int .u64 (r3 : Int)]) rfl (by kernel_rfl) rfl (by kernel_rfl) ?_
              intro w5 hS5
              refine hK _ _ ?_
              clear hK K
              (try simp only [Act.put, nq1, nq2, nq3, nq4, nq5, nq6])
              (refine wpAny_take (i := 8) (v := ?_) rfl (by kernel_rfl) (by kernel_rfl) (by kernel_rfl) (fun _ _ _ h => h) (Or.inl ⟨by first | kernel_rfl | rfl, ?_⟩) ?_; rotate_left; (intro wx; go_simp) <;> (with_reducible rfl); (try simp only [Act.put, nq1, nq2, nq3, nq4, nq5, nq6]))
              refine wpAny_done (by kernel_rfl) ?_ _
              go_wp2_with fail
              go_meet
              exact ⟨g6, r0, r1, r2, r3, bo, rfl, rfl, hrw, hbo, hrv, hS5⟩
            · refine step_alloc (zs := #[.int .u64 0, .int .u64 0, .int .u64 0, .int .u64 0]) (e := 120) rfl (fun _ => by go_simp) hS1 ?_
              intro g6 wa hS1 hba
              refine hK (From wa) _ _ (From.next hba) (From.refl _) ?_
              clear hK K
              (try simp only [Act.put, nq1, nq2, nq3, nq4, nq5, nq6])
              (refine wpM_one (i := 2) (by kernel_rfl) rfl rfl ?_; intro K hK; (try simp only [Act.put, nq1, nq2, nq3, nq4, nq5, nq6]))
              refine step_call rfl rfl enLess rfl (less_any a0 a1 a2 a3 _ _ _ _ _ HW.out ord_words) ?_
              rintro e w3 ⟨r0, r1, r2, r3, bo, hrw, hbo, hrv, rfl, hb3⟩
              have hS1 := hS1.call hb3
              refine ⟨_, rfl, hK (From w3) _ _ (From.next hb3) (From.refl _) ?_⟩
              clear hK K
              (try simp only [Act.put, nq1, nq2, nq3, nq4, nq5, nq6])
              (refine wpM_takeU (i := 3) (v := ?_) rfl (by kernel_rfl) (by kernel_rfl) (by kernel_rfl) (fun _ _ _ h => h) (From.refl _) rfl (Or.inl ⟨by first | kernel_rfl | rfl, ?_⟩) ?_; rotate_left; (intro wx; go_simp) <;> (with_reducible rfl); (try simp only [Act.put, nq1, nq2, nq3, nq4, nq5, nq6])); (refine wpM_takeU (i := 4) (v := ?_) rfl (by kernel_rfl) (by kernel_rfl) (by kernel_rfl) (fun _ _ _ h => h) (From.refl _) rfl (Or.inl ⟨by first | kernel_rfl | rfl, ?_⟩) ?_; rotate_left; (intro wx; go_simp) <;> (with_reducible rfl); (try simp only [Act.put, nq1, nq2, nq3, nq4, nq5, nq6])); (refine wpM_takeU (i := 5) (v := ?_) rfl (by kernel_rfl) (by kernel_rfl) (by kernel_rfl) (fun _ _ _ h => h) (From.refl _) rfl (Or.inl ⟨by first | kernel_rfl | rfl, ?_⟩) ?_; rotate_left; (intro wx; go_simp) <;> (with_reducible rfl); (try simp only [Act.put, nq1, nq2, nq3, nq4, nq5, nq6]))
              (refine wpM_late (i := 7) (by kernel_rfl) rfl rfl ?_; intro K hK; (try simp only [Act.put, nq1, nq2, nq3, nq4, nq5, nq6]))
              refine step_storeRow rfl rfl hS1 0 rfl rfl (cs := #[.int .u64 (r0 : Int), .int .u64 (r1 : Int), .int .u64 (r2 : Int), .int .u64 (r3 : Int)]) rfl (by kernel_rfl) rfl (by kernel_rfl) ?_
              intro w5 hS5
              refine hK _ _ ?_
              clear hK K
              (try simp only [Act.put, nq1, nq2, nq3, nq4, nq5, nq6])
              (refine wpAny_take (i := 8) (v := ?_) rfl (by kernel_rfl) (by kernel_rfl) (by kernel_rfl) (fun _ _ _ h => h) (Or.inl ⟨by first | kernel_rfl | rfl, ?_⟩) ?_; rotate_left; (intro wx; go_simp) <;> (with_reducible rfl); (try simp only [Act.put, nq1, nq2, nq3, nq4, nq5, nq6]))
              refine wpAny_done (by kernel_rfl) ?_ _
              go_wp2_with fail
              go_meet
              exact ⟨g6, r0, r1, r2, r3, bo, rfl, rfl, hrw, hbo, hrv, hS5⟩
          · refine step_alloc (zs := #[.int .u64 0, .int .u64 0, .int .u64 0, .int .u64 0]) (e := 120) rfl (fun _ => by go_simp) hS1 ?_
            intro g6 wa hS1 hba
            refine hK (From wa) _ _ (From.next hba) (From.refl _) ?_
            clear hK K
            (try simp only [Act.put, nq1, nq2, nq3, nq4, nq5, nq6])
            (refine wpM_one (i := 1) (by kernel_rfl) rfl rfl ?_; intro K hK; (try simp only [Act.put, nq1, nq2, nq3, nq4, nq5, nq6]))
            refine step_call rfl rfl enOrder rfl (order_any _) ?_
            rintro e w2 ⟨rfl, hb2⟩
            have hS1 := hS1.call hb2
            refine ⟨_, rfl, hK (From w2) _ _ (From.next hb2) (From.refl _) ?_⟩
            clear hK K
            (try simp only [Act.put, nq1, nq2, nq3, nq4, nq5, nq6])
            (refine wpM_one (i := 2) (by kernel_rfl) rfl rfl ?_; intro K hK; (try simp only [Act.put, nq1, nq2, nq3, nq4, nq5, nq6]))
            refine step_call rfl rfl enLess rfl (less_any a0 a1 a2 a3 _ _ _ _ _ HW.out ord_words) ?_
            rintro e w3 ⟨r0, r1, r2, r3, bo, hrw, hbo, hrv, rfl, hb3⟩
            have hS1 := hS1.call hb3
            refine ⟨_, rfl, hK (From w3) _ _ (From.next hb3) (From.refl _) ?_⟩
            clear hK K
            (try simp only [Act.put, nq1, nq2, nq3, nq4, nq5, nq6])
            (refine wpM_takeU (i := 3) (v := ?_) rfl (by kernel_rfl) (by kernel_rfl) (by kernel_rfl) (fun _ _ _ h => h) (From.refl _) rfl (Or.inl ⟨by first | kernel_rfl | rfl, ?_⟩) ?_; rotate_left; (intro wx; go_simp) <;> (with_reducible rfl); (try simp only [Act.put, nq1, nq2, nq3, nq4, nq5, nq6])); (refine wpM_takeU (i := 4) (v := ?_) rfl (by kernel_rfl) (by kernel_rfl) (by kernel_rfl) (fun _ _ _ h => h) (From.refl _) rfl (Or.inl ⟨by first | kernel_rfl | rfl, ?_⟩) ?_; rotate_left; (intro wx; go_simp) <;> (with_reducible rfl); (try simp only [Act.put, nq1, nq2, nq3, nq4, nq5, nq6])); (refine wpM_takeU (i := 5) (v := ?_) rfl (by kernel_rfl) (by kernel_rfl) (by kernel_rfl) (fun _ _ _ h => h) (From.refl _) rfl (Or.inl ⟨by first | kernel_rfl | rfl, ?_⟩) ?_; rotate_left; (intro wx; go_simp) <;> (with_reducible rfl); (try simp only [Act.put, nq1, nq2, nq3, nq4, nq5, nq6]))
            (refine wpM_late (i := 7) (by kernel_rfl) rfl rfl ?_; intro K hK; (try simp only [Act.put, nq1, nq2, nq3, nq4, nq5, nq6]))
            refine step_storeRow rfl rfl hS1 0 rfl rfl (cs := #[.int .u64 (r0 : Int), .int .u64 (r1 : Int), .int .u64 (r2 : Int), .int .u64 (r3 : Int)]) rfl (by kernel_rfl) rfl (by kernel_rfl) ?_
            intro w5 hS5
            refine hK _ _ ?_
            clear hK K
            (try simp only [Act.put, nq1, nq2, nq3, nq4, nq5, nq6])
            (refine wpAny_take (i := 8) (v := ?_) rfl (by kernel_rfl) (by kernel_rfl) (by kernel_rfl) (fun _ _ _ h => h) (Or.inl ⟨by first | kernel_rfl | rfl, ?_⟩) ?_; rotate_left; (intro wx; go_simp) <;> (with_reducible rfl); (try simp only [Act.put, nq1, nq2, nq3, nq4, nq5, nq6]))
            refine wpAny_done (by kernel_rfl) ?_ _
            go_wp2_with fail
            go_meet
            exact ⟨g6, r0, r1, r2, r3, bo, rfl, rfl, hrw, hbo, hrv, hS5⟩
        case rest =>
          obtain ⟨g6, r0, r1, r2, r3, bo, rfl, rfl, hrw, hbo, hrv, hS6⟩ := hcut
          obtain ⟨hE1, hE2⟩ := HEN.out [a0, a1, a2, a3] [r0, r1, r2, r3] b bo bit HX.out hbit HW.out HCL.out hrw rfl (by
            have := HV.out
            rw [List.take_of_length_le (by simp), List.take_of_length_le (by rw [HXL.out]; omega)] at this
            exact this) (by rw [← lv_ord]; exact hrv) hbo
          have HE1 := hide hE1
          have HE2 := hide hE2
          have HRW := hide hrw
          have hne : g6 ≠ w.heap.size + 1 := fun h => hS6.apart 0 2 _ _ g6 (by omega) rfl rfl rfl (by rw [h]; rfl)
          have hne2 : w.heap.size ≠ w.heap.size + 1 := by omega
          clear hE1 hE2 hrv hrw
          by_cases hbo0 : bo = 0
          · subst hbo0
            have qr0 : wc.cell? ⟨g6, 0, none⟩ = some (.int .u64 (r0 : Int)) := hS6.cell 0 rfl 0
            have qr1 : wc.cell? ⟨g6, 1, none⟩ = some (.int .u64 (r1 : Int)) := hS6.cell 0 rfl 1
            have qr2 : wc.cell? ⟨g6, 2, none⟩ = some (.int .u64 (r2 : Int)) := hS6.cell 0 rfl 2
            have qr3 : wc.cell? ⟨g6, 3, none⟩ = some (.int .u64 (r3 : Int)) := hS6.cell 0 rfl 3
            have z0 : wc.cell? ⟨w.heap.size + 1, 0, none⟩ = some (.int .u64 0) := hS6.cell 2 rfl 0
            have z1 : wc.cell? ⟨w.heap.size + 1, 1, none⟩ = some (.int .u64 0) := hS6.cell 2 rfl 1
            have z2 : wc.cell? ⟨w.heap.size + 1, 2, none⟩ = some (.int .u64 0) := hS6.cell 2 rfl 2
            have z3 : wc.cell? ⟨w.heap.size + 1, 3, none⟩ = some (.int .u64 0) := hS6.cell 2 rfl 3
            have f0 := hS6.free 2 rfl 0
            have f1 := hS6.free 2 rfl 1
            have f2 := hS6.free 2 rfl 2
            have f3 := hS6.free 2 rfl 3
            have HS := hide ((((hS6.setCell 2 rfl 0 (.int .u64 (r0 : Int))).setCell 2 rfl 1 (.int .u64 (r1 : Int))).setCell 2 rfl 2 (.int .u64 (r2 : Int))).setCell 2 rfl 3 (.int .u64 (r3 : Int)))
            clear hS6
            go_wp2_with fail
            refine bodyPost_ret (results_cell_row rfl _ _ (w.heap.size + 1) _ _ _ _ rfl (HS.out.heap 2 rfl) Tryz.underlying120 rfl (by kernel_rfl)) rfl ?_
            exact ⟨[r0, r1, r2, r3], rfl, HRW.out, HE2.out (by trivial), rfl, HS.out.below⟩
          · have hdb : decide (0 < bo) = true := by simp; omega
            have qa0 : wc.cell? ⟨w.heap.size, 0, none⟩ = some (.int .u64 (a0 : Int)) := hS6.cell 1 rfl 0
            have qa1 : wc.cell? ⟨w.heap.size, 1, none⟩ = some (.int .u64 (a1 : Int)) := hS6.cell 1 rfl 1
            have qa2 : wc.cell? ⟨w.heap.size, 2, none⟩ = some (.int .u64 (a2 : Int)) := hS6.cell 1 rfl 2
            have qa3 : wc.cell? ⟨w.heap.size, 3, none⟩ = some (.int .u64 (a3 : Int)) := hS6.cell 1 rfl 3
            have z0 : wc.cell? ⟨w.heap.size + 1, 0, none⟩ = some (.int .u64 0) := hS6.cell 2 rfl 0
            have z1 : wc.cell? ⟨w.heap.size + 1, 1, none⟩ = some (.int .u64 0) := hS6.cell 2 rfl 1
            have z2 : wc.cell? ⟨w.heap.size + 1, 2, none⟩ = some (.int .u64 0) := hS6.cell 2 rfl 2
            have z3 : wc.cell? ⟨w.heap.size + 1, 3, none⟩ = some (.int .u64 0) := hS6.cell 2 rfl 3
            have f0 := hS6.free 2 rfl 0
            have f1 := hS6.free 2 rfl 1
            have f2 := hS6.free 2 rfl 2
            have f3 := hS6.free 2 rfl 3
            have HS := hide ((((hS6.setCell 2 rfl 0 (.int .u64 (a0 : Int))).setCell 2 rfl 1 (.int .u64 (a1 : Int))).setCell 2 rfl 2 (.int .u64 (a2 : Int))).setCell 2 rfl 3 (.int .u64 (a3 : Int)))
            clear hS6
            go_wp2_with fail
            refine bodyPost_ret (results_cell_row rfl _ _ (w.heap.size + 1) _ _ _ _ rfl (HS.out.heap 2 rfl) Tryz.underlying120 rfl (by kernel_rfl)) rfl ?_
            exact ⟨[a0, a1, a2, a3], rfl, HW.out, HE1.out (by omega), rfl, HS.out.below⟩
end Go.Proofs.YtnohmgpmmhlloaaGreatDoor.S3

namespace Go.Proofs.YtnohmgpmmhlloaaGreatDoor.S3
open Go.RowKit

theorem tyB : RowTy Tryz.prog 22 5 1 1 := rowTy_of (z := .int .u8 0) Tryz.underlying22 (by kernel_rfl) rfl (by decide)
theorem bvs_snoc (l : List UInt8) (m : Nat) (h : m < 256) : bvs (l ++ [UInt8.ofNat m]) = bvs l ++ [.int .u8 (m : Int)] := by
  simp only [bvs, List.map_append, List.map_cons, List.map_nil, bv, UInt8.toNat_ofNat']
  rw [Nat.mod_eq_of_lt (by omega)]
def SpRel (w : World) (xs : List Nat) (v i : Value) (wr : World) : Prop :=
  ∃ (k : Nat) (B : Option Addr) (d : Nat) (l : List UInt8), k ≤ xs.length ∧ i = .int .i64 (k : Int) ∧ v = .slice B l.length d ∧ l = spB (xs.take k) ∧ St w NoB wr [.row (.slice B l.length d) 5 1 l.length (bvs l)]
def SpRel2 (w : World) (T : List UInt8) (v x i : Value) (wr : World) : Prop :=
  ∃ (j f y : Nat) (B : Option Addr) (d : Nat) (l : List UInt8), i = .int .i64 (j : Int) ∧ x = .int .u64 (y : Int) ∧ j + f = 8 ∧ v = .slice B l.length d ∧ l ++ leB f y = T ∧ St w NoB wr [.row (.slice B l.length d) 5 1 l.length (bvs l)]
set_option maxRecDepth 100000 in
set_option maxHeartbeats 800000 in
theorem spelt_walk (A : Option Addr) (n c : Nat) (xs : List Nat) (w : World) (hn : xs.length = n) (hn2 : n ≤ 100) (hr : Rd w (.slice A n c) 1 n (uvs xs)) :
    Calls Tryz.prog 146 #[.slice A n c] w (ResB 5 w (spB xs)) := by
  have HN := hide hn
  have HR := hide hr
  have HS0 := hide ((St.init w NoB).row (Below.refl _ _) (World.ownsRow_nil _ _ 5 1))
  clear hn hr
  go_enter Tryz.func146, Tryz.ntmps146
  go_wp2_with fail
  go_loopw [3, 8] (fun v i wr => SpRel w xs v i wr) (fun _ i _ => n - (intOf i).toNat)
  case atStart => exact ⟨0, none, 0, [], by omega, rfl, rfl, rfl, HS0.out⟩
  case round =>
    obtain ⟨k, B, d, l, hk, rfl, rfl, hl, hS⟩ := hrel
    rw [HN.out] at hk
    by_cases hlt : k < n
    · obtain ⟨x, hx⟩ : ∃ x, xs[k]? = some x := ⟨xs[k]'(by rw [HN.out]; exact hlt), List.getElem?_eq_getElem _⟩
      rcases HR.out.cases with ⟨_, h0, _⟩ | ⟨b, o, sp, c', hA, hb, _, _, _, hsp, hc⟩
      · omega
      injection hA with hA1 _ hA3
      subst hA1 hA3
      obtain rfl : sp = none := hsp (by omega)
      replace hb := hb (by omega)
      have hcx : wr.cell? ⟨b, o + k, none⟩ = some (.int .u64 (x : Int)) := by
        rw [hS.below.cell (p := ⟨b, o + k, none⟩) hb]
        exact hc k _ (by simp only [uvs, List.getElem?_map, hx]; rfl)
      have hT := spB_take xs k x hx
      rw [← hl] at hT
      have HT := hide hT
      have hll : l.length = 8 * k := by rw [hl, spB_len, List.length_take, HN.out]; omega
      have HLL := hide hll
      have HSK := hide hS
      clear hS hT hl hx hc hsp hll
      go_wp2_with fail
      go_loopw [3, 5, 12] (fun v x i wr => SpRel2 w (spB (xs.take (k + 1))) v x i wr) (fun _ _ i _ => 8 - (intOf i).toNat)
      case atStart => exact ⟨0, 8, x, B, d, l, rfl, rfl, rfl, rfl, HT.out.symm, HSK.out⟩
      case round =>
        obtain ⟨j, f, y, B2, d2, l2, rfl, rfl, hjf, rfl, hl2, hS2⟩ := hrel
        have HL2 := hide hl2
        have hbd : l2.length ≤ 8 * k + 8 := by
          have := congrArg List.length hl2
          rw [spB_len, List.length_append, List.length_take, HN.out] at this
          omega
        clear hl2 HSK
        by_cases hj : j < 8
        · go_wp2_with (at_builtin; refine wl_append1 rfl rfl tyB hS2 0 rfl rfl (us := [_]) rfl rfl ?_ ?_ (by decide) ?_; (intro u hu; simp only [List.mem_singleton] at hu; subst hu; rfl); (simp only [List.length_singleton]; omega); intro B3 d3 w3 hS3)
          go_roundw
          case rel =>
            cases f with
            | zero => omega
            | succ f =>
              refine ⟨j + 1, f, y / 256, B3, d3, l2 ++ [UInt8.ofNat (y % 256)], by go_num, by simp, by omega, by simp, ?_, ?_⟩
              · rw [← HL2.out]
                simp [leB]
              · rw [bvs_snoc _ _ (by omega), List.length_append, List.length_singleton]
                exact hS3
          case measure => simp [intOf]; omega
        · obtain rfl : f = 0 := by omega
          have h8 : j = 8 := by omega
          subst h8
          have hfin := HL2.out
          simp only [leB, List.append_nil] at hfin
          have HFIN := hide hfin
          clear hfin
          go_wp2_with fail
          go_roundw
          case rel => exact ⟨k + 1, B2, d2, l2, by rw [HN.out]; omega, by go_num, rfl, HFIN.out, hS2⟩
          case measure => simp [intOf]; omega
    · obtain rfl : k = n := by omega
      have hfin : l = spB xs := by rw [hl, ← HN.out, List.take_length]
      have HFIN := hide hfin
      clear hl hfin
      go_wp2_with fail
      go_ret
      exact resB_of hS 0 rfl (by rw [HFIN.out])
set_option maxRecDepth 100000 in
set_option maxHeartbeats 800000 in
theorem bytes_walk (a0 a1 a2 a3 : Nat) (w : World) (ha : Words [a0, a1, a2, a3]) :
    Calls Tryz.prog 133 #[.agg #[.int .u64 (a0 : Int), .int .u64 (a1 : Int), .int .u64 (a2 : Int), .int .u64 (a3 : Int)]] w (ResB 5 w (leB 32 (lv [a0, a1, a2, a3]))) := by
  have e : leB 32 (lv [a0, a1, a2, a3]) = spB [a0, a1, a2, a3] := (spB_eq _ ha).symm
  rw [e]
  have S := fun w1 => spelt_walk (some ⟨w.heap.size, 0, none⟩) 4 4 [a0, a1, a2, a3] w1 rfl (by omega)
  have HS0 := hide ((St.init w NoB).alloc (uvs [a0, a1, a2, a3]).toArray 120)
  have HS := hide S
  clear S e ha
  go_enter Tryz.func133, Tryz.ntmps133
  go_wp2_with (go_at_call 146; refine (HS.out _ (rd_cells HS0.out 0 rfl 4 (by rfl) (by decide))).mono ?_; rintro e w2 ⟨B, d, rfl, hb, ho⟩)
  go_ret
  exact ⟨B, d, rfl, ((Below.refl _ _).alloc (Nat.le_refl _) _).trans (hb.mono (by simp)), ho.base_le (by simp)⟩
end Go.Proofs.YtnohmgpmmhlloaaGreatDoor.S3

namespace Go.Proofs.YtnohmgpmmhlloaaGreatDoor.S3
open Go.RowKit

theorem pow_split (i : Nat) : 256 ^ i = 18446744073709551616 ^ (i / 8) * 256 ^ (i % 8) := by
  rw [show (18446744073709551616 : Nat) = 256 ^ 8 from by decide, ← Nat.pow_mul, ← Nat.pow_add]
  congr 1
  omega
theorem from_word (cur : List Nat) (i x : Nat) (hx : cur[i / 8]? = some x) (hv : lv cur < 256 ^ i) : x < 256 ^ (i % 8) := by
  have h1 := lv_get_le cur (i / 8) x hx
  have h2 := pow_split i
  rw [h2] at hv
  have h3 : x * 18446744073709551616 ^ (i / 8) < 256 ^ (i % 8) * 18446744073709551616 ^ (i / 8) := by rw [Nat.mul_comm (256 ^ (i % 8))]; omega
  exact Nat.lt_of_mul_lt_mul_right h3
theorem from_lt (x c i : Nat) (hx : x < 256 ^ (i % 8)) (hc : c < 256) : x + c * 256 ^ (i % 8) < 18446744073709551616 := by
  have h8 : i % 8 < 8 := Nat.mod_lt _ (by omega)
  have h1 : c * 256 ^ (i % 8) + 256 ^ (i % 8) ≤ 256 ^ (i % 8 + 1) := by
    rw [Nat.pow_succ, ← Nat.succ_mul, Nat.mul_comm (256 ^ (i % 8))]
    exact Nat.mul_le_mul_right _ (by omega)
  have h2 : 256 ^ (i % 8 + 1) ≤ 256 ^ 8 := Nat.pow_le_pow_right (by omega) (by omega)
  have h3 : (256 : Nat) ^ 8 = 18446744073709551616 := by decide
  omega
theorem from_step (cur : List Nat) (l : List UInt8) (i x : Nat) (c : UInt8) (hx : cur[i / 8]? = some x) (hc : l[i]? = some c) (hv : lv cur = bval (l.take i)) :
    lv (cur.set (i / 8) (x + c.toNat * 256 ^ (i % 8))) = bval (l.take (i + 1)) := by
  have h1 := lv_set cur (i / 8) x (x + c.toNat * 256 ^ (i % 8)) hx
  rw [bval_take hc, pow_split i, ← hv]
  rw [Nat.add_mul] at h1
  rw [show c.toNat * 256 ^ (i % 8) * 18446744073709551616 ^ (i / 8) = c.toNat * (18446744073709551616 ^ (i / 8) * 256 ^ (i % 8)) from by rw [Nat.mul_assoc, Nat.mul_comm (256 ^ (i % 8))]] at h1
  omega
theorem from_or (x c i : Nat) (hx : x < 256 ^ (i % 8)) (hc : c < 256) :
    bits .or .u64 (x : Int) (IntKind.u64.wrap ((c : Int) * 2 ^ (i % 8 * 8))) = ((x + c * 256 ^ (i % 8) : Nat) : Int) := by
  have hlt := from_lt x c i hx hc
  have e2 : (2 : Nat) ^ (i % 8 * 8) = 256 ^ (i % 8) := by rw [Nat.mul_comm, Nat.pow_mul]
  have e : IntKind.u64.wrap ((c : Int) * 2 ^ (i % 8 * 8)) = ((c * 256 ^ (i % 8) : Nat) : Int) := by
    rw [show ((c : Int) * 2 ^ (i % 8 * 8)) = ((c * 2 ^ (i % 8 * 8) : Nat) : Int) from by simp, e2, IntKind.wrap_u64]
    omega
  rw [e, u64_or_nat _ _ (by omega) (by omega), Nat.or_comm]
  have := nat_join (i % 8 * 8) (c * 256 ^ (i % 8)) x (by rw [e2]; exact Nat.mul_mod_left _ _) (by rw [e2]; exact hx)
  rw [this, Nat.add_comm]

def FromRel (w : World) (g : Nat) (H : List Chunk) (l : List UInt8) (i : Value) (wr : World) : Prop :=
  ∃ (k : Nat) (cur : List Nat), k ≤ 32 ∧ i = .int .i64 (k : Int) ∧ cur.length = 4 ∧ Words cur ∧ lv cur = bval (l.take k) ∧ St w NoB wr (.cells g (uvs cur).toArray 120 :: H)
def ResFrom (w : World) (l : List UInt8) (e : Ending) (w' : World) : Prop :=
  ∃ a0 a1 a2 a3 : Nat, Words [a0, a1, a2, a3] ∧ lv [a0, a1, a2, a3] = bval l ∧ e = .returned (.agg #[.int .u64 (a0 : Int), .int .u64 (a1 : Int), .int .u64 (a2 : Int), .int .u64 (a3 : Int)]) ∧ Below w.heap.size w w'
set_option maxRecDepth 100000 in
set_option maxHeartbeats 800000 in
theorem from_walk (A : Option Addr) (c : Nat) (l : List UInt8) (w : World) (hl : l.length = 32) (hr : Rd w (.slice A 32 c) 1 32 (bvs l)) :
    Calls Tryz.prog 92 #[.slice A 32 c] w (ResFrom w l) := by
  rcases hr.cases with ⟨_, h0, _⟩ | ⟨b, o, sp, c', hA, hb, hnc, hcm, _, hsp, hc⟩
  · omega
  injection hA with hA1 _ hA3
  subst hA1 hA3
  obtain rfl : sp = none := hsp (by omega)
  replace hb := hb (by omega)
  have HC := hide hc
  have HL := hide hl
  have HS0 := hide (((St.init w NoB).alloc #[.int .u64 0, .int .u64 0, .int .u64 0, .int .u64 0] 120).alloc #[.int .u64 0, .int .u64 0, .int .u64 0, .int .u64 0] 120)
  clear hr hc hl hsp
  unfold maxLen at hcm
  go_enter Tryz.func92, Tryz.ntmps92
  go_wp2_with fail
  go_loopw [9] (fun i wr => FromRel w (w.heap.size + 1) [.cells w.heap.size #[.int .u64 0, .int .u64 0, .int .u64 0, .int .u64 0] 120] l i wr) (fun i _ => 32 - (intOf i).toNat)
  case atStart =>
    have hS := HS0.out
    simp only [size_alloc1] at hS
    exact ⟨0, [0, 0, 0, 0], by omega, rfl, rfl, by unfold Words; decide, rfl, hS⟩
  case round =>
    obtain ⟨k, cur, hk, rfl, hcl, hcw, hval, hS⟩ := hrel
    by_cases hlt : k < 32
    · obtain ⟨x, hx⟩ := lim_get cur hcl (k / 8) (by omega)
      obtain ⟨ch, hch⟩ : ∃ ch, l[k]? = some ch := ⟨l[k]'(by rw [HL.out]; exact hlt), List.getElem?_eq_getElem _⟩
      have hvl : lv cur < 256 ^ k := by
        rw [hval]
        have := bval_lt (l.take k)
        rwa [List.length_take, HL.out, Nat.min_eq_left (by omega)] at this
      have hxw := from_word cur k x hx hvl
      have hch2 := UInt8.toNat_lt ch
      have hor := from_or x ch.toNat k hxw hch2
      have hlt2 := from_lt x ch.toNat k hxw hch2
      have hstep := hide (from_step cur l k x ch hx hch hval)
      obtain ⟨y, hy⟩ : ∃ y, y = x + ch.toNat * 256 ^ (k % 8) := ⟨_, rfl⟩
      rw [← hy] at hor hlt2 hstep
      have hS' := hS.drew
      have hHS := hide hS'
      have hcb : wr.cell? ⟨b, o + k, none⟩ = some (.int .u8 (ch.toNat : Int)) := by
        rw [hS.below.cell (p := ⟨b, o + k, none⟩) hb]
        exact HC.out k _ (by simp only [bvs, List.getElem?_map, hch]; rfl)
      obtain ⟨cn, hcn⟩ : ∃ cn, cn = ch.toNat := ⟨_, rfl⟩
      rw [← hcn] at hor hcb hch2
      have cx : ∀ z, From wr.drew z → z.cell? ⟨w.heap.size + 1, k / 8, none⟩ = some (.int .u64 (x : Int)) := fun z hz => by
        rw [hz.cell (p := ⟨w.heap.size + 1, k / 8, none⟩) (Chunk.lt (hHS.out.sat 0 _ rfl) rfl), hHS.out.cell 0 rfl (k / 8)]
        exact uvs_get hx
      obtain ⟨q, hq⟩ : ∃ q, q = k / 8 := ⟨_, rfl⟩
      obtain ⟨r, hr⟩ : ∃ r, r = k % 8 * 8 := ⟨_, rfl⟩
      have hq4 : q < 4 := by omega
      have htd : (k : Int).tdiv 8 = (q : Int) := by rw [Int.tdiv_eq_ediv_of_nonneg (by omega)]; omega
      have htm : (k : Int).tmod 8 = ((k % 8 : Nat) : Int) := by rw [Int.tmod_eq_emod_of_nonneg (by omega)]; omega
      have hwr : IntKind.i64.wrap ((k : Int).tmod 8 * 8) = (r : Int) := by rw [htm, IntKind.wrap_i64]; omega
      have hwc : IntKind.u64.wrap (cn : Int) = (cn : Int) := by rw [IntKind.wrap_u64]; omega
      have hr64 : r < 64 := by omega
      have hq4i : (q : Int) < 4 := by omega
      have hr64i : (r : Int) < 64 := by omega
      have hwq : IntKind.i64.wrap (q : Int) = (q : Int) := by rw [IntKind.wrap_i64]; omega
      have hwr2 : IntKind.i64.wrap (r : Int) = (r : Int) := by rw [IntKind.wrap_i64]; omega
      rw [← hr] at hor
      rw [← hq] at cx hstep
      clear htm
      have D1 := hide hlt2
      have HCW := hide hcw
      have HCL := hide hcl
      have HQ := hide hq
      have HR := hide hr
      clear hS hS' hx hxw hval hcw hcl hvl hlt2 hy hcn hch hq hr
      go_wp2_with fail
      refine wp_region_M (fun i => i == 12) (From wr.drew) (by kernel_rfl) ?_
      (refine wpM_takeU (i := 0) (v := ?_) rfl (by kernel_rfl) (by kernel_rfl) (by kernel_rfl) (fun _ _ _ h => h) (From.refl _) rfl (Or.inl ⟨by first | kernel_rfl | rfl, ?_⟩) ?_; rotate_left; (intro wx; go_simp) <;> (with_reducible rfl); (try simp only [Act.put, nq1, nq2, nq3, nq4, nq5, nq6])); (refine wpM_takeU (i := 1) (v := ?_) rfl (by kernel_rfl) (by kernel_rfl) (by kernel_rfl) (fun _ _ _ h => h) (From.refl _) rfl (Or.inl ⟨by first | kernel_rfl | rfl, ?_⟩) ?_; rotate_left; (intro wx; go_simp) <;> (with_reducible rfl); (try simp only [Act.put, nq1, nq2, nq3, nq4, nq5, nq6]))
      (refine wpM_take (i := 2) (v := ?_) rfl (by kernel_rfl) (by kernel_rfl) (by kernel_rfl) (fun _ _ _ h => h) (From.refl _) rfl (by kernel_rfl) (Or.inl ⟨by first | kernel_rfl | rfl, ?_⟩) ?_; rotate_left; (intro wx hx; go_simp) <;> (with_reducible rfl); (try simp only [Act.put, nq1, nq2, nq3, nq4, nq5, nq6])); (refine wpM_take (i := 3) (v := ?_) rfl (by kernel_rfl) (by kernel_rfl) (by kernel_rfl) (fun _ _ _ h => h) (From.refl _) rfl (by kernel_rfl) (Or.inl ⟨by first | kernel_rfl | rfl, ?_⟩) ?_; rotate_left; (intro wx hx; go_simp) <;> (with_reducible rfl); (try simp only [Act.put, nq1, nq2, nq3, nq4, nq5, nq6]))
      (refine wpM_takeU (i := 4) (v := ?_) rfl (by kernel_rfl) (by kernel_rfl) (by kernel_rfl) (fun _ _ _ h => h) (From.refl _) rfl (Or.inl ⟨by first | kernel_rfl | rfl, ?_⟩) ?_; rotate_left; (intro wx; go_simp) <;> (with_reducible rfl); (try simp only [Act.put, nq1, nq2, nq3, nq4, nq5, nq6])); (refine wpM_takeU (i := 5) (v := ?_) rfl (by kernel_rfl) (by kernel_rfl) (by kernel_rfl) (fun _ _ _ h => h) (From.refl _) rfl (Or.inl ⟨by first | kernel_rfl | rfl, ?_⟩) ?_; rotate_left; (intro wx; go_simp) <;> (with_reducible rfl); (try simp only [Act.put, nq1, nq2, nq3, nq4, nq5, nq6])); (refine wpM_takeU (i := 6) (v := ?_) rfl (by kernel_rfl) (by kernel_rfl) (by kernel_rfl) (fun _ _ _ h => h) (From.refl _) rfl (Or.inl ⟨by first | kernel_rfl | rfl, ?_⟩) ?_; rotate_left; (intro wx; go_simp) <;> (with_reducible rfl); (try simp only [Act.put, nq1, nq2, nq3, nq4, nq5, nq6])); (refine wpM_takeU (i := 7) (v := ?_) rfl (by kernel_rfl) (by kernel_rfl) (by kernel_rfl) (fun _ _ _ h => h) (From.refl _) rfl (Or.inl ⟨by first | kernel_rfl | rfl, ?_⟩) ?_; rotate_left; (intro wx; go_simp) <;> (with_reducible rfl); (try simp only [Act.put, nq1, nq2, nq3, nq4, nq5, nq6])); (refine wpM_takeU (i := 8) (v := ?_) rfl (by kernel_rfl) (by kernel_rfl) (by kernel_rfl) (fun _ _ _ h => h) (From.refl _) rfl (Or.inl ⟨by first | kernel_rfl | rfl, ?_⟩) ?_; rotate_left; (intro wx; go_simp) <;> (with_reducible rfl); (try simp only [Act.put, nq1, nq2, nq3, nq4, nq5, nq6])); (refine wpM_takeU (i := 9) (v := ?_) rfl (by kernel_rfl) (by kernel_rfl) (by kernel_rfl) (fun _ _ _ h => h) (From.refl _) rfl (Or.inl ⟨by first | kernel_rfl | rfl, ?_⟩) ?_; rotate_left; (intro wx; go_simp) <;> (with_reducible rfl); (try simp only [Act.put, nq1, nq2, nq3, nq4, nq5, nq6])); (refine wpM_takeU (i := 10) (v := ?_) rfl (by kernel_rfl) (by kernel_rfl) (by kernel_rfl) (fun _ _ _ h => h) (From.refl _) rfl (Or.inl ⟨by first | kernel_rfl | rfl, ?_⟩) ?_; rotate_left; (intro wx; go_simp) <;> (with_reducible rfl); (try simp only [Act.put, nq1, nq2, nq3, nq4, nq5, nq6])); (refine wpM_takeU (i := 11) (v := ?_) rfl (by kernel_rfl) (by kernel_rfl) (by kernel_rfl) (fun _ _ _ h => h) (From.refl _) rfl (Or.inl ⟨by first | kernel_rfl | rfl, ?_⟩) ?_; rotate_left; (intro wx; go_simp) <;> (with_reducible rfl); (try simp only [Act.put, nq1, nq2, nq3, nq4, nq5, nq6]))
      (refine wpM_late (i := 12) (by kernel_rfl) rfl rfl ?_; intro K hK; (try simp only [Act.put, nq1, nq2, nq3, nq4, nq5, nq6]))
      refine step_store rfl rfl tyU64 hHS.out 0 rfl q (by rw [List.size_toArray, uvs_len, HCL.out]; exact hq4) rfl (v := .int .u64 (y : Int)) rfl rfl ?_
      intro w2 hS2
      refine hK _ _ ?_
      clear hK K
      (try simp only [Act.put, nq1, nq2, nq3, nq4, nq5, nq6])
      refine wpAny_done (by kernel_rfl) ?_ _
      go_wp2_with fail
      go_roundw
      case rel =>
        rw [uvs_set] at hS2
        exact ⟨k + 1, cur.set q y, by omega, by go_num, by rw [List.length_set]; exact HCL.out, words_set HCW.out q _ D1.out, hstep.out, hS2⟩
      case measure => simp [intOf]; omega
    · obtain rfl : k = 32 := by omega
      match cur, hcl with
      | [a0, a1, a2, a3], _ =>
        have hS' : St w NoB wr [.cells (w.heap.size + 1) #[.int .u64 (a0 : Int), .int .u64 (a1 : Int), .int .u64 (a2 : Int), .int .u64 (a3 : Int)] 120, .cells w.heap.size #[.int .u64 0, .int .u64 0, .int .u64 0, .int .u64 0] 120] := hS
        have n0 : wr.cell? ⟨w.heap.size + 1, 0, none⟩ = some (.int .u64 (a0 : Int)) := hS'.cell 0 rfl 0
        have n1 : wr.cell? ⟨w.heap.size + 1, 1, none⟩ = some (.int .u64 (a1 : Int)) := hS'.cell 0 rfl 1
        have n2 : wr.cell? ⟨w.heap.size + 1, 2, none⟩ = some (.int .u64 (a2 : Int)) := hS'.cell 0 rfl 2
        have n3 : wr.cell? ⟨w.heap.size + 1, 3, none⟩ = some (.int .u64 (a3 : Int)) := hS'.cell 0 rfl 3
        have r0 : wr.cell? ⟨w.heap.size, 0, none⟩ = some (.int .u64 0) := hS'.cell 1 rfl 0
        have r1 : wr.cell? ⟨w.heap.size, 1, none⟩ = some (.int .u64 0) := hS'.cell 1 rfl 1
        have r2 : wr.cell? ⟨w.heap.size, 2, none⟩ = some (.int .u64 0) := hS'.cell 1 rfl 2
        have r3 : wr.cell? ⟨w.heap.size, 3, none⟩ = some (.int .u64 0) := hS'.cell 1 rfl 3
        have f0 := hS'.free 1 rfl 0
        have f1 := hS'.free 1 rfl 1
        have f2 := hS'.free 1 rfl 2
        have f3 := hS'.free 1 rfl 3
        have HS := hide ((((hS'.setCell 1 rfl 0 (.int .u64 (a0 : Int))).setCell 1 rfl 1 (.int .u64 (a1 : Int))).setCell 1 rfl 2 (.int .u64 (a2 : Int))).setCell 1 rfl 3 (.int .u64 (a3 : Int)))
        have HV := hide hval
        have HW := hide hcw
        clear hS hS' hval hcw
        go_wp2_with fail
        refine bodyPost_ret (results_cell_row rfl _ _ w.heap.size _ _ _ _ rfl (HS.out.heap 1 rfl) Tryz.underlying120 rfl (by kernel_rfl)) rfl ?_
        exact ⟨a0, a1, a2, a3, HW.out, by rw [HV.out, ← HL.out, List.take_length], rfl, HS.out.below⟩
end Go.Proofs.YtnohmgpmmhlloaaGreatDoor.S3

namespace Go.Proofs.YtnohmgpmmhlloaaGreatDoor.S3
open Go.RowKit

def mayS (l : List UInt8) : Bool := decide (l.length = 32) && decide (bval l < Lq)
theorem less_bit (a r : List Nat) (bo : Nat) (hr : Words r) (hrl : r.length = 4) (hbo : bo ≤ 1) (ha : lv a < 18446744073709551616 ^ 4) (h : lv r + Lq = lv a + bo * 18446744073709551616 ^ 4) : decide (0 < bo) = decide (lv a < Lq) := by
  have h4 := lv_lt r hr
  have hL := Lq_lt
  rw [hrl] at h4
  generalize 18446744073709551616 ^ 4 = B at *
  rw [Bool.eq_iff_iff, decide_eq_true_eq, decide_eq_true_eq]
  have : bo = 0 ∨ bo = 1 := by omega
  rcases this with rfl | rfl <;> omega
set_option maxRecDepth 100000 in
set_option maxHeartbeats 800000 in
theorem may_walk (A : Option Addr) (n c : Nat) (l : List UInt8) (w : World) (hl : l.length = n) (hr : Rd w (.slice A n c) 1 n (bvs l)) :
    Calls Tryz.prog 39 #[.slice A n c] w fun e w' => e = .returned (.bool (mayS l)) ∧ Below w.heap.size w w' := by
  by_cases h32 : n = 32
  · subst h32
    have hm : mayS l = decide (bval l < Lq) := by unfold mayS; rw [hl]; simp
    rw [hm]
    have HR := hide hr
    have HL := hide hl
    clear hm hr hl
    go_enter Tryz.func39, Tryz.ntmps39
    go_wp2_with (first
      | (go_at_call 92; refine (from_walk A c l _ HL.out HR.out).mono ?_; rintro e w1 ⟨a0, a1, a2, a3, haw, hav, rfl, hb1⟩; have HAV := hide hav; clear hav)
      | (go_at_call 94; refine (order_any _).mono ?_; rintro e w2 ⟨rfl, hb2⟩)
      | (go_at_call 93; refine (less_any a0 a1 a2 a3 _ _ _ _ _ haw ord_words).mono ?_; rintro e w3 ⟨r0, r1, r2, r3, bo, hrw, hbo, hrv, rfl, hb3⟩; have HRV := hide hrv; clear hrv))
    go_ret
    have hB := lv_lt _ haw
    have hd := less_bit [a0, a1, a2, a3] [r0, r1, r2, r3] bo hrw rfl hbo hB (by rw [← lv_ord]; exact HRV.out)
    rw [HAV.out] at hd
    refine ⟨congrArg (fun z => Ending.returned (Value.bool z)) hd, ?_⟩
    have hb12 := hb1.trans (hb2.mono hb1.size)
    have hb13 := hb12.trans (hb3.mono hb12.size)
    exact hb13.trans ((Below.refl _ _).alloc (by first | exact hb13.size | omega) _)
  · have hm : mayS l = false := by unfold mayS; rw [hl, decide_eq_false h32]; rfl
    have hne : ((n : Int) != 32) = true := by simp; omega
    have hne2 : ((n : Int) == 32) = false := by simp; omega
    rw [hm]
    clear hm hr hl
    go_enter Tryz.func39, Tryz.ntmps39
    go_wp2_with fail
    go_ret
    exact ⟨rfl, Below.refl _ _⟩

theorem enNext (args : Array Value) (w : World) : (callFunc 132 args).run Tryz.prog w = .ok (.enter 132 args) w := by kernel_rfl
theorem next_any (a0 a1 a2 a3 bit : Nat) (w : World) (ha : Words [a0, a1, a2, a3]) (hx : lv [a0, a1, a2, a3] < Lq) (hbit : bit ≤ 1) :
    Calls Tryz.prog 132 #[.agg #[.int .u64 (a0 : Int), .int .u64 (a1 : Int), .int .u64 (a2 : Int), .int .u64 (a3 : Int)], .int .u64 (bit : Int)] w fun e w' =>
      ∃ r0 r1 r2 r3 : Nat, Words [r0, r1, r2, r3] ∧ lv [r0, r1, r2, r3] = (2 * lv [a0, a1, a2, a3] + bit) % Lq ∧ e = .returned (.agg #[.int .u64 (r0 : Int), .int .u64 (r1 : Int), .int .u64 (r2 : Int), .int .u64 (r3 : Int)]) ∧ Below w.heap.size w w' := by
  refine (next_walk [a0, a1, a2, a3] bit w rfl ha hx hbit).mono ?_
  rintro e w' ⟨rs, hrl, hrw, hv, rfl, hb⟩
  match rs, hrl with
  | [r0, r1, r2, r3], _ => exact ⟨r0, r1, r2, r3, hrw, hv, rfl, hb⟩

def AtI (m : Nat) (i : Value) : Prop := (m = 0 ∧ i = .int .i64 (-1)) ∨ ∃ p : Nat, m = p + 1 ∧ i = .int .i64 (p : Int)
theorem atI_pred (p : Nat) : AtI p (.int .i64 ((p : Int) - 1)) := by
  cases p with
  | zero => exact .inl ⟨rfl, rfl⟩
  | succ p => exact .inr ⟨p, rfl, by simp⟩
def RedRel (w : World) (g : Nat) (X : Nat) (wr : World) : Prop :=
  ∃ a0 a1 a2 a3 : Nat, Words [a0, a1, a2, a3] ∧ lv [a0, a1, a2, a3] = X % Lq ∧ St w NoB wr [.cells g #[.int .u64 (a0 : Int), .int .u64 (a1 : Int), .int .u64 (a2 : Int), .int .u64 (a3 : Int)] 120]
theorem red_step (X c k : Nat) (hk : k < 8) : (2 * ((X * 2 ^ (7 - k) + c / 2 ^ (k + 1)) % Lq) + c / 2 ^ k % 2) % Lq = (X * 2 ^ (8 - k) + c / 2 ^ k) % Lq := by
  have e : X * 2 ^ (8 - k) + c / 2 ^ k = 2 * (X * 2 ^ (7 - k) + c / 2 ^ (k + 1)) + c / 2 ^ k % 2 := by
    rw [show 8 - k = (7 - k) + 1 from by omega, Nat.pow_succ, Nat.pow_succ, ← Nat.div_div_eq_div_mul, Nat.mul_add, ← Nat.mul_assoc X]
    have := Nat.div_add_mod (c / 2 ^ k) 2
    omega
  rw [e, Nat.add_mod, Nat.mul_mod_mod, ← Nat.add_mod]
theorem red_byte (l : List UInt8) (p : Nat) (c : UInt8) (h : l[p]? = some c) : bval (l.drop (p + 1)) * 256 + c.toNat = bval (l.drop p) := by
  have hlt := (List.getElem?_eq_some_iff.1 h).1
  have hc := (List.getElem?_eq_some_iff.1 h).2
  rw [List.drop_eq_getElem_cons hlt, hc, bval]
  omega
theorem red_bit (c k : Nat) (hc : c < 256) : bits .and .u8 ((c / 2 ^ k : Nat) : Int) 1 = ((c / 2 ^ k % 2 : Nat) : Int) := by
  have h1 : c / 2 ^ k < 256 := Nat.lt_of_le_of_lt (Nat.div_le_self _ _) hc
  have := u8_and_nat (c / 2 ^ k) 1 h1 (by omega)
  rw [nat_mask1] at this
  exact this
set_option maxRecDepth 100000 in
set_option maxHeartbeats 1600000 in
theorem reduce_walk (A : Option Addr) (n c : Nat) (l : List UInt8) (w : World) (hl : l.length = n) (hn : n ≤ 64) (hr : Rd w (.slice A n c) 1 n (bvs l)) :
    Calls Tryz.prog 97 #[.slice A n c] w (ResB 5 w (leB 32 (bval l % Lq))) := by
  have HR := hide hr
  have HL := hide hl
  have HS0 := hide ((St.init w NoB).alloc #[.int .u64 0, .int .u64 0, .int .u64 0, .int .u64 0] 120)
  have hL := Lq_lt
  have HLQ := hide hL.2
  have hat : AtI n (.int .i64 ((n : Int) - 1)) := by
    cases n with
    | zero => exact .inl ⟨rfl, rfl⟩
    | succ p => exact .inr ⟨p, rfl, by simp⟩
  have HAT := hide hat
  clear hr hl hL hat
  go_enter Tryz.func97, Tryz.ntmps97
  go_wp2_with fail
  go_loopw [4] (fun i wr => ∃ m : Nat, m ≤ n ∧ AtI m i ∧ RedRel w w.heap.size (bval (l.drop m)) wr) (fun i _ => (intOf i + 1).toNat)
  case atStart =>
    refine ⟨n, Nat.le_refl _, HAT.out, 0, 0, 0, 0, by unfold Words; decide, ?_, HS0.out⟩
    rw [List.drop_eq_nil_of_le (by rw [HL.out]; exact Nat.le_refl _)]
    rfl
  case round =>
    obtain ⟨m, hm, hi, a0, a1, a2, a3, haw, hav, hS⟩ := hrel
    rcases hi with ⟨rfl, rfl⟩ | ⟨p, rfl, rfl⟩
    · have HAV := hide hav
      have HS := hide hS
      have hc0 : wr.cell? ⟨w.heap.size, 0, none⟩ = some (.int .u64 (a0 : Int)) := hS.cell 0 rfl 0
      have hc1 : wr.cell? ⟨w.heap.size, 1, none⟩ = some (.int .u64 (a1 : Int)) := hS.cell 0 rfl 1
      have hc2 : wr.cell? ⟨w.heap.size, 2, none⟩ = some (.int .u64 (a2 : Int)) := hS.cell 0 rfl 2
      have hc3 : wr.cell? ⟨w.heap.size, 3, none⟩ = some (.int .u64 (a3 : Int)) := hS.cell 0 rfl 3
      clear hav hS
      go_wp2_with (go_at_call 133; refine (bytes_walk a0 a1 a2 a3 _ haw).mono ?_; rintro e w2 ⟨B, d, rfl, hb, ho⟩)
      go_ret
      have hav := HAV.out
      rw [List.drop_zero] at hav
      rw [← hav]
      exact ⟨B, d, rfl, HS.out.below.trans (hb.mono HS.out.below.size), ho.base_le HS.out.below.size⟩
    · obtain ⟨ch, hch⟩ : ∃ ch, l[p]? = some ch := ⟨l[p]'(by rw [HL.out]; omega), List.getElem?_eq_getElem _⟩
      have hrb := red_byte l p ch hch
      have hch2 := UInt8.toNat_lt ch
      obtain ⟨cn, hcn⟩ : ∃ cn, cn = ch.toNat := ⟨_, rfl⟩
      rw [← hcn] at hrb hch2
      obtain ⟨X, hX⟩ : ∃ X, X = bval (l.drop (p + 1)) := ⟨_, rfl⟩
      rw [← hX] at hrb hav
      rcases HR.out.cases with ⟨_, h0, _⟩ | ⟨b, o, sp, c', hA, hb, hnc, hcm, _, hsp, hc⟩
      · omega
      injection hA with hA1 _ hA3
      subst hA1 hA3
      obtain rfl : sp = none := hsp (by omega)
      replace hb := hb (by omega)
      have hcb : w.cell? ⟨b, o + p, none⟩ = some (.int .u8 (cn : Int)) := hc p _ (by simp only [bvs, List.getElem?_map, hch]; rw [hcn]; rfl)
      have HRB := hide hrb
      have HCB := hide hcb
      have HRR := hide (show RedRel w w.heap.size (X * 2 ^ (8 - 8) + cn / 2 ^ 8) wr from ⟨a0, a1, a2, a3, haw, by rw [hav, show cn / 2 ^ 8 = 0 from by omega]; simp, hS⟩)
      clear hrb hX hcn hch hc hsp hav hS haw hcb
      unfold maxLen at hcm
      go_wp2_with fail
      go_loopw [5] (fun k wr => ∃ j : Nat, j ≤ 8 ∧ AtI j k ∧ RedRel w w.heap.size (X * 2 ^ (8 - j) + cn / 2 ^ j) wr) (fun k _ => (intOf k + 1).toNat)
      case atStart => exact ⟨8, Nat.le_refl _, .inr ⟨7, rfl, rfl⟩, HRR.out⟩
      case round =>
        obtain ⟨j, hj, hk, b0, b1, b2, b3, hbw, hbv, hS2⟩ := hrel
        clear HRR
        rcases hk with ⟨rfl, rfl⟩ | ⟨k, rfl, rfl⟩
        · have HBV := hide hbv
          clear hbv
          have HS2 := hide hS2
          clear hS2
          go_wp2_with fail
          go_roundw
          case rel =>
            refine ⟨p, by omega, atI_pred p, b0, b1, b2, b3, hbw, ?_, HS2.out⟩
            rw [HBV.out, ← HRB.out]
            simp
          case measure => simp [intOf]; try omega
        · obtain ⟨d, hd⟩ : ∃ d, d = cn / 2 ^ k % 2 := ⟨_, rfl⟩
          have hd1 : d ≤ 1 := by omega
          have hst := red_step X cn k (by omega)
          rw [show 8 - (k + 1) = 7 - k from by omega] at hbv
          rw [← hbv, ← hd] at hst
          have hbl : lv [b0, b1, b2, b3] < Lq := by rw [hbv]; exact Nat.mod_lt _ HLQ.out
          have he : bits .and .u8 ((cn : Int) / 2 ^ k) 1 = (d : Int) := by
            have := red_bit cn k hch2
            rw [hd, ← this]
            simp
          have hwd : IntKind.u64.wrap (d : Int) = (d : Int) := by rw [IntKind.wrap_u64]; omega
          have hk8 : k < 8 := by omega
          have hp1 : p < n := by omega
          have hp2 : (p : Int) < (n : Int) := by omega
          have hS' := hS2.drew
          have hHS := hide hS'
          have n0 : ∀ z, From wr.drew z → z.cell? ⟨w.heap.size, 0, none⟩ = some (.int .u64 (b0 : Int)) := fun z hz => by
            rw [hz.cell (p := ⟨w.heap.size, 0, none⟩) (Chunk.lt (hHS.out.sat 0 _ rfl) rfl)]; exact hHS.out.cell 0 rfl 0
          have n1 : ∀ z, From wr.drew z → z.cell? ⟨w.heap.size, 1, none⟩ = some (.int .u64 (b1 : Int)) := fun z hz => by
            rw [hz.cell (p := ⟨w.heap.size, 1, none⟩) (Chunk.lt (hHS.out.sat 0 _ rfl) rfl)]; exact hHS.out.cell 0 rfl 1
          have n2 : ∀ z, From wr.drew z → z.cell? ⟨w.heap.size, 2, none⟩ = some (.int .u64 (b2 : Int)) := fun z hz => by
            rw [hz.cell (p := ⟨w.heap.size, 2, none⟩) (Chunk.lt (hHS.out.sat 0 _ rfl) rfl)]; exact hHS.out.cell 0 rfl 2
          have n3 : ∀ z, From wr.drew z → z.cell? ⟨w.heap.size, 3, none⟩ = some (.int .u64 (b3 : Int)) := fun z hz => by
            rw [hz.cell (p := ⟨w.heap.size, 3, none⟩) (Chunk.lt (hHS.out.sat 0 _ rfl) rfl)]; exact hHS.out.cell 0 rfl 3
          have cb : ∀ z, From wr.drew z → z.cell? ⟨b, o + p, none⟩ = some (.int .u8 (cn : Int)) := fun z hz => by
            have hbz := hHS.out.below.trans (hz.mono hHS.out.below.size)
            rw [hbz.cell (p := ⟨b, o + p, none⟩) hb]; exact HCB.out
          have HST := hide hst
          have HBL := hide hbl
          clear hS' hS2 hst hbl hbv hd
          go_wp2_with fail
          refine wp_region_M (fun i => i == 10) (From wr.drew) (by kernel_rfl) ?_
          (refine wpM_take (i := 0) (v := ?_) rfl (by kernel_rfl) (by kernel_rfl) (by kernel_rfl) (fun _ _ _ h => h) (From.refl _) rfl (by kernel_rfl) (Or.inl ⟨by first | kernel_rfl | rfl, ?_⟩) ?_; rotate_left; (intro wx hx; go_simp) <;> (with_reducible rfl); (try simp only [Act.put, nq1, nq2, nq3, nq4, nq5, nq6]))
          (refine wpM_takeU (i := 1) (v := ?_) rfl (by kernel_rfl) (by kernel_rfl) (by kernel_rfl) (fun _ _ _ h => h) (From.refl _) rfl (Or.inl ⟨by first | kernel_rfl | rfl, ?_⟩) ?_; rotate_left; (intro wx; go_simp) <;> (with_reducible rfl); (try simp only [Act.put, nq1, nq2, nq3, nq4, nq5, nq6])); (refine wpM_takeU (i := 2) (v := ?_) rfl (by kernel_rfl) (by kernel_rfl) (by kernel_rfl) (fun _ _ _ h => h) (From.refl _) rfl (Or.inl ⟨by first | kernel_rfl | rfl, ?_⟩) ?_; rotate_left; (intro wx; go_simp) <;> (with_reducible rfl); (try simp only [Act.put, nq1, nq2, nq3, nq4, nq5, nq6])); (refine wpM_takeU (i := 3) (v := ?_) rfl (by kernel_rfl) (by kernel_rfl) (by kernel_rfl) (fun _ _ _ h => h) (From.refl _) rfl (Or.inl ⟨by first | kernel_rfl | rfl, ?_⟩) ?_; rotate_left; (intro wx; go_simp) <;> (with_reducible rfl); (try simp only [Act.put, nq1, nq2, nq3, nq4, nq5, nq6]))
          (refine wpM_take (i := 4) (v := ?_) rfl (by kernel_rfl) (by kernel_rfl) (by kernel_rfl) (fun _ _ _ h => h) (From.refl _) rfl (by kernel_rfl) (Or.inl ⟨by first | kernel_rfl | rfl, ?_⟩) ?_; rotate_left; (intro wx hx; go_simp) <;> (with_reducible rfl); (try simp only [Act.put, nq1, nq2, nq3, nq4, nq5, nq6]))
          (refine wpM_takeU (i := 5) (v := ?_) rfl (by kernel_rfl) (by kernel_rfl) (by kernel_rfl) (fun _ _ _ h => h) (From.refl _) rfl (Or.inl ⟨by first | kernel_rfl | rfl, ?_⟩) ?_; rotate_left; (intro wx; go_simp) <;> (with_reducible rfl); (try simp only [Act.put, nq1, nq2, nq3, nq4, nq5, nq6])); (refine wpM_takeU (i := 6) (v := ?_) rfl (by kernel_rfl) (by kernel_rfl) (by kernel_rfl) (fun _ _ _ h => h) (From.refl _) rfl (Or.inl ⟨by first | kernel_rfl | rfl, ?_⟩) ?_; rotate_left; (intro wx; go_simp) <;> (with_reducible rfl); (try simp only [Act.put, nq1, nq2, nq3, nq4, nq5, nq6])); (refine wpM_takeU (i := 7) (v := ?_) rfl (by kernel_rfl) (by kernel_rfl) (by kernel_rfl) (fun _ _ _ h => h) (From.refl _) rfl (Or.inl ⟨by first | kernel_rfl | rfl, ?_⟩) ?_; rotate_left; (intro wx; go_simp) <;> (with_reducible rfl); (try simp only [Act.put, nq1, nq2, nq3, nq4, nq5, nq6])); (refine wpM_takeU (i := 8) (v := ?_) rfl (by kernel_rfl) (by kernel_rfl) (by kernel_rfl) (fun _ _ _ h => h) (From.refl _) rfl (Or.inl ⟨by first | kernel_rfl | rfl, ?_⟩) ?_; rotate_left; (intro wx; go_simp) <;> (with_reducible rfl); (try simp only [Act.put, nq1, nq2, nq3, nq4, nq5, nq6]))
          (refine wpM_one (i := 9) (by kernel_rfl) rfl rfl ?_; intro K hK; (try simp only [Act.put, nq1, nq2, nq3, nq4, nq5, nq6]))
          refine step_call rfl rfl enNext rfl (next_any b0 b1 b2 b3 d _ hbw HBL.out hd1) ?_
          rintro e w2 ⟨r0, r1, r2, r3, hrw, hrv, rfl, hb2⟩
          have hS3 := hHS.out.call hb2
          refine ⟨_, rfl, hK (From w2) _ _ (From.next hb2) (From.refl _) ?_⟩
          clear hK K
          (try simp only [Act.put, nq1, nq2, nq3, nq4, nq5, nq6])
          (refine wpM_late (i := 10) (by kernel_rfl) rfl rfl ?_; intro K hK; (try simp only [Act.put, nq1, nq2, nq3, nq4, nq5, nq6]))
          refine step_storeRow rfl rfl hS3 0 rfl rfl (cs := #[.int .u64 (r0 : Int), .int .u64 (r1 : Int), .int .u64 (r2 : Int), .int .u64 (r3 : Int)]) rfl (by kernel_rfl) rfl (by kernel_rfl) ?_
          intro w5 hS5
          refine hK _ _ ?_
          clear hK K
          (try simp only [Act.put, nq1, nq2, nq3, nq4, nq5, nq6])
          refine wpAny_done (by kernel_rfl) ?_ _
          go_wp2_with fail
          go_roundw
          case rel => exact ⟨k, by omega, atI_pred k, r0, r1, r2, r3, hrw, by rw [hrv]; exact HST.out, hS5⟩
          case measure => simp [intOf]; try omega
end Go.Proofs.YtnohmgpmmhlloaaGreatDoor.S3

namespace Go.Proofs.YtnohmgpmmhlloaaGreatDoor.S3
open Go.RowKit

theorem mad_aux (C P o ca t s : Nat) (hP : P ≤ C * C) (ho : o ≤ C) (hca : ca ≤ C) (e : s + t * (C + 1) = P + o + ca) : t < C + 1 := by
  have h1 : t * (C + 1) < (C + 1) * (C + 1) := by
    rw [Nat.add_mul C 1 (C + 1), Nat.mul_add C C 1]
    omega
  exact Nat.lt_of_mul_lt_mul_right h1
theorem mad_sum (s2 h c1 c2 B P o ca l s1 : Nat) (m1 : l + h * B = P) (a1 : s1 + c1 * B = l + o + 0) (b1 : s2 + c2 * B = s1 + ca + 0) : s2 + (h + c1 + c2) * B = P + o + ca := by
  rw [Nat.add_mul, Nat.add_mul]
  omega
theorem mad_spec (x y o ca : Nat) (hx : x < 18446744073709551616) (hy : y < 18446744073709551616) (ho : o < 18446744073709551616) (hca : ca < 18446744073709551616) :
    adS (adS (muL x y) o 0) ca 0 + (muH x y + adC (muL x y) o 0 + adC (adS (muL x y) o 0) ca 0) * 18446744073709551616 = x * y + o + ca ∧ adS (adS (muL x y) o 0) ca 0 < 18446744073709551616 ∧
      muH x y + adC (muL x y) o 0 < 18446744073709551616 ∧ muH x y + adC (muL x y) o 0 + adC (adS (muL x y) o 0) ca 0 < 18446744073709551616 := by
  obtain ⟨m1, m2, m3⟩ := mu_spec x y hx hy
  obtain ⟨a1, a2, a3⟩ := ad_spec (muL x y) o 0 m2 ho (Nat.zero_le 1)
  obtain ⟨b1, b2, b3⟩ := ad_spec (adS (muL x y) o 0) ca 0 a2 hca (Nat.zero_le 1)
  have hxy : x * y ≤ 18446744073709551615 * 18446744073709551615 := Nat.mul_le_mul (by omega) (by omega)
  generalize x * y = P at *
  generalize adS (adS (muL x y) o 0) ca 0 = s2 at *
  generalize adC (adS (muL x y) o 0) ca 0 = c2 at *
  generalize adS (muL x y) o 0 = s1 at *
  generalize adC (muL x y) o 0 = c1 at *
  generalize muL x y = l at *
  generalize muH x y = h at *
  clear hx hy
  have HXY := hide hxy
  clear hxy
  have e1 : s2 + (h + c1 + c2) * 18446744073709551616 = P + o + ca := mad_sum s2 h c1 c2 18446744073709551616 P o ca l s1 m1 a1 b1
  have h4 := mad_aux 18446744073709551615 P o ca (h + c1 + c2) s2 HXY.out (by omega) (by omega) (by omega)
  refine ⟨e1, b2, by omega, by omega⟩
theorem mad_step (os ys : List Nat) (i k x y o T ca s ca' : Nat) (ho : os[i + k]? = some o) (hy : ys[k]? = some y) (hs : s + ca' * 18446744073709551616 = x * y + o + ca)
    (h : lv os + ca * 18446744073709551616 ^ (i + k) = T + x * lv (ys.take k) * 18446744073709551616 ^ i) :
    lv (os.set (i + k) s) + ca' * 18446744073709551616 ^ (i + k + 1) = T + x * lv (ys.take (k + 1)) * 18446744073709551616 ^ i := by
  have h1 := lv_set os (i + k) o s ho
  rw [lv_take hy, Nat.mul_add, Nat.add_mul, Nat.pow_succ]
  have e : x * (y * 18446744073709551616 ^ k) * 18446744073709551616 ^ i = x * y * 18446744073709551616 ^ (i + k) := by
    rw [Nat.pow_add, ← Nat.mul_assoc, Nat.mul_assoc (x * y), Nat.mul_comm (18446744073709551616 ^ k)]
  rw [e, show ca' * (18446744073709551616 ^ (i + k) * 18446744073709551616) = ca' * 18446744073709551616 * 18446744073709551616 ^ (i + k) from by rw [Nat.mul_comm (18446744073709551616 ^ (i + k)), Nat.mul_assoc]]
  have h2 := congrArg (· * 18446744073709551616 ^ (i + k)) hs
  simp only [Nat.add_mul] at h2
  omega
theorem car_step (os : List Nat) (k o T ca s ca' : Nat) (ho : os[k]? = some o) (hs : s + ca' * 18446744073709551616 = o + ca) (h : lv os + ca * 18446744073709551616 ^ k = T) :
    lv (os.set k s) + ca' * 18446744073709551616 ^ (k + 1) = T := by
  have h1 := lv_set os k o s ho
  rw [Nat.pow_succ, show ca' * (18446744073709551616 ^ k * 18446744073709551616) = ca' * 18446744073709551616 * 18446744073709551616 ^ k from by rw [Nat.mul_comm (18446744073709551616 ^ k), Nat.mul_assoc]]
  have h2 := congrArg (· * 18446744073709551616 ^ k) hs
  simp only [Nat.add_mul] at h2
  omega
theorem mad_bound (xs ys zs : List Nat) (i : Nat) (hx : Words xs) (hy : Words ys) (hz : Words zs) (hxl : xs.length = 4) (hyl : ys.length = 4) (hzl : zs.length = 4) :
    lv zs + lv (xs.take i) * lv ys < 18446744073709551616 ^ 8 := by
  have h1 := lv_lt (xs.take i) fun x h => hx x (List.mem_of_mem_take h)
  have h2 := lv_lt ys hy
  have h3 := lv_lt zs hz
  have h4 : (18446744073709551616 : Nat) ^ (xs.take i).length ≤ 18446744073709551616 ^ 4 := Nat.pow_le_pow_right (by omega) (by rw [List.length_take]; omega)
  rw [hyl] at h2
  rw [hzl] at h3
  have h5 : lv (xs.take i) * lv ys ≤ (18446744073709551616 ^ 4 - 1) * (18446744073709551616 ^ 4 - 1) := Nat.mul_le_mul (by omega) (by omega)
  have h6 : (18446744073709551616 : Nat) ^ 8 = 18446744073709551616 ^ 4 * 18446744073709551616 ^ 4 := by rw [← Nat.pow_add]
  rw [h6]
  generalize hB : (18446744073709551616 : Nat) ^ 4 = B at *
  have hB1 : 2 ≤ B := by rw [← hB]; decide
  have h7 : (B - 1) * (B - 1) + (B - 1) < B * B := by
    obtain ⟨c, rfl⟩ : ∃ c, B = c + 1 := ⟨B - 1, by omega⟩
    simp only [Nat.add_sub_cancel]
    rw [Nat.add_mul, Nat.mul_add]
    omega
  omega

def MaH (g7 g8 g9 g10 : Nat) (xs ys zs os : List Nat) : List Chunk :=
  [.cells g7 (uvs xs).toArray 120, .cells g8 (uvs ys).toArray 120, .cells g9 (uvs zs).toArray 120, .cells g10 (uvs os).toArray 170]
def MaRel (w : World) (g7 g8 g9 g10 : Nat) (xs ys zs : List Nat) (T k : Nat) (cav : Value) (wr : World) : Prop :=
  ∃ (os : List Nat) (ca : Nat), os.length = 8 ∧ Words os ∧ cav = .int .u64 (ca : Int) ∧ ca < 18446744073709551616 ∧ lv os + ca * 18446744073709551616 ^ k = T ∧ St w NoB wr (MaH g7 g8 g9 g10 xs ys zs os)
set_option maxRecDepth 100000 in
set_option maxHeartbeats 1600000 in
theorem muladd_walk (A B C : Option Addr) (ca cb cc : Nat) (a b c : List UInt8) (w : World) (hla : a.length = 32) (hlb : b.length = 32) (hlc : c.length = 32)
    (ha : Rd w (.slice A 32 ca) 1 32 (bvs a)) (hb : Rd w (.slice B 32 cb) 1 32 (bvs b)) (hc : Rd w (.slice C 32 cc) 1 32 (bvs c)) :
    Calls Tryz.prog 107 #[.slice A 32 ca, .slice B 32 cb, .slice C 32 cc] w (ResB 5 w (leB 32 ((bval a * bval b + bval c) % Lq))) := by
  have HA := hide ha
  have HB := hide hb
  have HC := hide hc
  have LA := hide hla
  have LB := hide hlb
  have LC := hide hlc
  clear ha hb hc hla hlb hlc
  go_enter Tryz.func107, Tryz.ntmps107
  go_upto_region 5 with (first
    | (go_at_call 92; ((with_reducible refine (from_walk A ca a _ LA.out HA.out).mono ?_); rintro e w1 ⟨x0, x1, x2, x3, hxw, hxv, rfl, hb1⟩; have HXV := hide hxv; clear hxv))
    | (go_at_call 92; ((with_reducible refine (from_walk B cb b _ LB.out (HB.out.below hb1)).mono ?_); rintro e w2 ⟨y0, y1, y2, y3, hyw, hyv, rfl, hb2⟩; have HYV := hide hyv; clear hyv; have hb12 := hb1.trans (hb2.mono hb1.size)))
    | (go_at_call 92; ((with_reducible refine (from_walk C cc c _ LC.out (HC.out.below hb12)).mono ?_); rintro e w3 ⟨z0, z1, z2, z3, hzw, hzv, rfl, hb3⟩; have HZV := hide hzv; clear hzv; have hb13 := hb12.trans (hb3.mono hb12.size))))
  have hS0 := ((((St.init w NoB).call hb13).alloc (uvs [x0, x1, x2, x3]).toArray 120).alloc (uvs [y0, y1, y2, y3]).toArray 120).alloc (uvs [z0, z1, z2, z3]).toArray 120
  have hS1 := hS0.alloc (uvs [0, 0, 0, 0, 0, 0, 0, 0]).toArray 170
  simp only [size_alloc1] at hS1
  have hS2 := hS1.pickL (H' := MaH w3.heap.size (w3.heap.size + 1) (w3.heap.size + 1 + 1) (w3.heap.size + 1 + 1 + 1) [x0, x1, x2, x3] [y0, y1, y2, y3] [z0, z1, z2, z3] [0, 0, 0, 0, 0, 0, 0, 0]) [3, 2, 1, 0] (by decide) rfl
  obtain ⟨g7, hg7⟩ : ∃ g7, g7 = w3.heap.size := ⟨_, rfl⟩
  obtain ⟨g8, hg8⟩ : ∃ g8, g8 = w3.heap.size + 1 := ⟨_, rfl⟩
  obtain ⟨g9, hg9⟩ : ∃ g9, g9 = w3.heap.size + 1 + 1 := ⟨_, rfl⟩
  obtain ⟨g10, hg10⟩ : ∃ g10, g10 = w3.heap.size + 1 + 1 + 1 := ⟨_, rfl⟩
  rw [← hg10, ← hg9, ← hg8, ← hg7] at hS2 ⊢
  have hS3 := hS2.drew
  clear hS0 hS1 hS2 hb1 hb2 hb3 hb12 hb13 hg7 hg8 hg9 hg10
  refine wp_region_MF (fun i => i == 2) (by kernel_rfl) ?_
  (refine wpM_takeU (i := 0) (v := ?_) rfl (by kernel_rfl) (by kernel_rfl) (by kernel_rfl) (fun _ _ _ h => h) (From.refl _) rfl (Or.inl ⟨by first | kernel_rfl | rfl, ?_⟩) ?_; rotate_left; (intro wx; go_simp) <;> (with_reducible rfl); (try simp only [Act.put, nq1, nq2, nq3, nq4, nq5, nq6])); (refine wpM_takeU (i := 1) (v := ?_) rfl (by kernel_rfl) (by kernel_rfl) (by kernel_rfl) (fun _ _ _ h => h) (From.refl _) rfl (Or.inl ⟨by first | kernel_rfl | rfl, ?_⟩) ?_; rotate_left; (intro wx; go_simp) <;> (with_reducible rfl); (try simp only [Act.put, nq1, nq2, nq3, nq4, nq5, nq6]))
  (refine wpM_late (i := 2) (by kernel_rfl) rfl rfl ?_; intro K hK; (try simp only [Act.put, nq1, nq2, nq3, nq4, nq5, nq6]))
  unfold MaH at hS3
  refine step_copy rfl rfl Tryz.underlying189 tyU64 hS3 3 rfl (dn := 8) (dc := 8) (m := 4) (ys := uvs [z0, z1, z2, z3]) rfl rfl (rd_cells hS3 2 rfl 4 rfl (by decide)) (by omega) (by omega) (by decide) (uvs_one _) ?_
  intro w4 hS4
  refine hK _ _ ?_
  clear hK K hS3
  (try simp only [Act.put, nq1, nq2, nq3, nq4, nq5, nq6])
  refine wpAny_done (by kernel_rfl) ?_ _
  have hS5 : St w NoB w4 (MaH g7 g8 g9 g10 [x0, x1, x2, x3] [y0, y1, y2, y3] [z0, z1, z2, z3] [z0, z1, z2, z3, 0, 0, 0, 0]) := hS4
  obtain ⟨xs, hxs⟩ : ∃ xs, xs = [x0, x1, x2, x3] := ⟨_, rfl⟩
  obtain ⟨ys, hys⟩ : ∃ ys, ys = [y0, y1, y2, y3] := ⟨_, rfl⟩
  obtain ⟨zs, hzs⟩ : ∃ zs, zs = [z0, z1, z2, z3] := ⟨_, rfl⟩
  have hxl : xs.length = 4 := by rw [hxs]; rfl
  have hyl : ys.length = 4 := by rw [hys]; rfl
  have hzl : zs.length = 4 := by rw [hzs]; rfl
  have hos : Words [z0, z1, z2, z3, 0, 0, 0, 0] := by
    intro v hv
    have h4 := hzw
    rw [show [z0, z1, z2, z3, 0, 0, 0, 0] = [z0, z1, z2, z3] ++ [0, 0, 0, 0] from rfl] at hv
    rcases List.mem_append.1 hv with h | h
    · exact h4 v h
    · simp only [List.mem_cons, List.not_mem_nil, or_false, or_self] at h; omega
  have hov : lv [z0, z1, z2, z3, 0, 0, 0, 0] = lv [z0, z1, z2, z3] := by simp [lv]
  rw [← hxs] at hxw HXV hS5
  rw [← hys] at hyw HYV hS5
  rw [← hzs] at hzw HZV hS5 hov
  have HS5 := hide hS5
  have HOV := hide hov
  have HOS := hide hos
  have HXL := hide hxl
  have HYL := hide hyl
  have HZL := hide hzl
  have HXW := hide hxw
  have HYW := hide hyw
  have HZW := hide hzw
  clear hS5 hS4 hxs hys hzs hxl hyl hzl hxw hyw hzw hos hov
  go_wp2_with fail
  go_loopw [40] (fun i wr => ∃ k : Nat, k ≤ 4 ∧ i = .int .i64 (k : Int) ∧ MaRel w g7 g8 g9 g10 xs ys zs (lv zs + lv (xs.take k) * lv ys) 8 (.int .u64 0) wr) (fun i _ => 4 - (intOf i).toNat)
  case atStart => exact ⟨0, by omega, rfl, _, 0, rfl, HOS.out, rfl, by omega, by rw [HOV.out]; simp [lv], HS5.out⟩
  case round =>
    obtain ⟨i, hi, rfl, os, c0, hol, how, hc0, _, hov, hS⟩ := hrel
    obtain rfl : c0 = 0 := by injection hc0 with _ h; omega
    clear hc0 HS5
    have HOV2 := hide (show lv os = lv zs + lv (xs.take i) * lv ys by rw [← hov]; simp)
    by_cases hlt : i < 4
    · obtain ⟨x, hx⟩ := lim_get xs HXL.out i hlt
      have hxx := words_get HXW.out hx
      have hbd := mad_bound xs ys zs (i + 1) HXW.out HYW.out HZW.out HXL.out HYL.out HZL.out
      rw [lv_take hx] at hbd
      have HBD := hide hbd
      have HX := hide hx
      have HXX := hide hxx
      have HOL := hide hol
      have HOW := hide how
      have HS := hide hS
      have hi4 : (i : Int) < 4 := by omega
      clear hbd hx hxx hol how hS hov
      go_wp2_with fail
      go_loopw [12, 43] (fun cv kv wr => ∃ k : Nat, k ≤ 4 ∧ kv = .int .i64 (k : Int) ∧ MaRel w g7 g8 g9 g10 xs ys zs (lv os + x * lv (ys.take k) * 18446744073709551616 ^ i) (i + k) cv wr) (fun _ kv _ => 4 - (intOf kv).toNat)
      case atStart => exact ⟨0, by omega, rfl, os, 0, HOL.out, HOW.out, rfl, by omega, by simp [lv], HS.out⟩
      case round =>
        obtain ⟨k, hk, rfl, os2, ca, hol2, how2, rfl, hcaw, hov2, hS2⟩ := hrel
        by_cases hlt2 : k < 4
        · obtain ⟨y, hy⟩ := lim_get ys HYL.out k hlt2
          obtain ⟨o, ho⟩ : ∃ o, os2[i + k]? = some o := ⟨os2[i + k]'(by omega), List.getElem?_eq_getElem _⟩
          have hyy := words_get HYW.out hy
          have hoo := words_get how2 ho
          obtain ⟨p1, p2, p3, p4⟩ := mad_spec x y o ca HXX.out hyy hoo hcaw
          have hstep := hide (mad_step os2 ys i k x y o _ ca _ _ ho hy p1 hov2)
          have hmul := fun W => mul_any x y W HXX.out hyy
          have HMUL := hide hmul
          clear hmul p1 hov2
          generalize muH x y = hiw at *
          generalize muL x y = low at *
          have A1 := add0_any low o
          have A2 := add0_any (adS low o 0) ca
          generalize adS (adS low o 0) ca 0 = s2 at *
          generalize adC (adS low o 0) ca 0 = c2 at *
          generalize adS low o 0 = s1 at *
          generalize adC low o 0 = c1 at *
          have hw1 : IntKind.u64.wrap ((hiw : Int) + (c1 : Int)) = ((hiw + c1 : Nat) : Int) := by rw [IntKind.wrap_u64]; omega
          have hw2 : IntKind.u64.wrap (((hiw + c1 : Nat) : Int) + (c2 : Int)) = ((hiw + c1 + c2 : Nat) : Int) := by rw [IntKind.wrap_u64]; omega
          have P2 := hide p2
          have P4 := hide p4
          have HW2 := hide how2
          have HL2 := hide hol2
          have HS2 := hide hS2
          have hS3 := hide hS2.drew
          have cx : ∀ z, From wr.drew z → z.cell? ⟨g7, i, none⟩ = some (.int .u64 (x : Int)) := fun z hz => by
            rw [hz.cell (p := ⟨g7, i, none⟩) (Chunk.lt (hS3.out.sat 0 _ rfl) rfl), hS3.out.cell 0 rfl i]
            exact uvs_get HX.out
          have cy : ∀ z, From wr.drew z → z.cell? ⟨g8, k, none⟩ = some (.int .u64 (y : Int)) := fun z hz => by
            rw [hz.cell (p := ⟨g8, k, none⟩) (Chunk.lt (hS3.out.sat 1 _ rfl) rfl), hS3.out.cell 1 rfl k]
            exact uvs_get hy
          have co : wr.drew.cell? ⟨g10, i + k, none⟩ = some (.int .u64 (o : Int)) := by
            rw [hS3.out.cell 3 rfl (i + k)]
            exact uvs_get ho
          have fo := hS3.out.free 3 rfl (i + k)
          have hk4 : (k : Int) < 4 := by omega
          have hik8 : (i : Int) + (k : Int) < 8 := by omega
          have hikn : ((i : Int) + (k : Int)).toNat = i + k := by omega
          clear p2 p3 p4 how2 hol2 hS2 ho hy hyy hoo hcaw
          go_wp2_with fail
          refine wp_region_F (by kernel_rfl) ?_
          (refine wpG_take (i := 0) (v := ?_) rfl (by kernel_rfl) (by kernel_rfl) (by kernel_rfl) (fun _ _ _ h => h) (From.refl _) (Or.inl ⟨by first | kernel_rfl | rfl, ?_⟩) ?_; rotate_left; (intro wx hx; go_simp) <;> (with_reducible rfl); (try simp only [Act.put, nq1, nq2, nq3, nq4, nq5, nq6])); (refine wpG_take (i := 1) (v := ?_) rfl (by kernel_rfl) (by kernel_rfl) (by kernel_rfl) (fun _ _ _ h => h) (From.refl _) (Or.inl ⟨by first | kernel_rfl | rfl, ?_⟩) ?_; rotate_left; (intro wx hx; go_simp) <;> (with_reducible rfl); (try simp only [Act.put, nq1, nq2, nq3, nq4, nq5, nq6])); (refine wpG_take (i := 2) (v := ?_) rfl (by kernel_rfl) (by kernel_rfl) (by kernel_rfl) (fun _ _ _ h => h) (From.refl _) (Or.inl ⟨by first | kernel_rfl | rfl, ?_⟩) ?_; rotate_left; (intro wx hx; go_simp) <;> (with_reducible rfl); (try simp only [Act.put, nq1, nq2, nq3, nq4, nq5, nq6])); (refine wpG_take (i := 3) (v := ?_) rfl (by kernel_rfl) (by kernel_rfl) (by kernel_rfl) (fun _ _ _ h => h) (From.refl _) (Or.inl ⟨by first | kernel_rfl | rfl, ?_⟩) ?_; rotate_left; (intro wx hx; go_simp) <;> (with_reducible rfl); (try simp only [Act.put, nq1, nq2, nq3, nq4, nq5, nq6])); (refine wpG_take (i := 4) (v := ?_) rfl (by kernel_rfl) (by kernel_rfl) (by kernel_rfl) (fun _ _ _ h => h) (From.refl _) (Or.inl ⟨by first | kernel_rfl | rfl, ?_⟩) ?_; rotate_left; (intro wx hx; go_simp) <;> (with_reducible rfl); (try simp only [Act.put, nq1, nq2, nq3, nq4, nq5, nq6])); (refine wpG_take (i := 5) (v := ?_) rfl (by kernel_rfl) (by kernel_rfl) (by kernel_rfl) (fun _ _ _ h => h) (From.refl _) (Or.inl ⟨by first | kernel_rfl | rfl, ?_⟩) ?_; rotate_left; (intro wx hx; go_simp) <;> (with_reducible rfl); (try simp only [Act.put, nq1, nq2, nq3, nq4, nq5, nq6]))
          (refine wpG_one (i := 6) (by kernel_rfl) rfl ?_; intro K hK; (try simp only [Act.put, nq1, nq2, nq3, nq4, nq5, nq6]))
          refine step_call rfl rfl enMul rfl (HMUL.out _) ?_
          rintro e w5 ⟨rfl, rfl⟩
          refine ⟨_, rfl, hK (From wr.drew) _ _ (fun _ h => h) (From.refl _) ?_⟩
          clear hK K
          (try simp only [Act.put, nq1, nq2, nq3, nq4, nq5, nq6])
          (refine wpG_take (i := 7) (v := ?_) rfl (by kernel_rfl) (by kernel_rfl) (by kernel_rfl) (fun _ _ _ h => h) (From.refl _) (Or.inl ⟨by first | kernel_rfl | rfl, ?_⟩) ?_; rotate_left; (intro wx hx; go_simp) <;> (with_reducible rfl); (try simp only [Act.put, nq1, nq2, nq3, nq4, nq5, nq6])); (refine wpG_take (i := 8) (v := ?_) rfl (by kernel_rfl) (by kernel_rfl) (by kernel_rfl) (fun _ _ _ h => h) (From.refl _) (Or.inl ⟨by first | kernel_rfl | rfl, ?_⟩) ?_; rotate_left; (intro wx hx; go_simp) <;> (with_reducible rfl); (try simp only [Act.put, nq1, nq2, nq3, nq4, nq5, nq6])); (refine wpG_take (i := 9) (v := ?_) rfl (by kernel_rfl) (by kernel_rfl) (by kernel_rfl) (fun _ _ _ h => h) (From.refl _) (Or.inl ⟨by first | kernel_rfl | rfl, ?_⟩) ?_; rotate_left; (intro wx hx; go_simp) <;> (with_reducible rfl); (try simp only [Act.put, nq1, nq2, nq3, nq4, nq5, nq6])); (refine wpG_take (i := 10) (v := ?_) rfl (by kernel_rfl) (by kernel_rfl) (by kernel_rfl) (fun _ _ _ h => h) (From.refl _) (Or.inl ⟨by first | kernel_rfl | rfl, ?_⟩) ?_; rotate_left; (intro wx hx; go_simp) <;> (with_reducible rfl); (try simp only [Act.put, nq1, nq2, nq3, nq4, nq5, nq6])); (refine wpG_take (i := 11) (v := ?_) rfl (by kernel_rfl) (by kernel_rfl) (by kernel_rfl) (fun _ _ _ h => h) (From.refl _) (Or.inl ⟨by first | kernel_rfl | rfl, ?_⟩) ?_; rotate_left; (intro wx hx; go_simp) <;> (with_reducible rfl); (try simp only [Act.put, nq1, nq2, nq3, nq4, nq5, nq6]))
          refine wpG_done (by kernel_rfl) ?_ _
          go_wp2_with fail
          go_roundw
          case rel =>
            have hw3 : IntKind.u64.wrap ((hiw : Int) + (c1 : Int) + (c2 : Int)) = ((hiw + c1 + c2 : Nat) : Int) := by
              have := P4.out
              rw [IntKind.wrap_u64]; omega
            refine ⟨k + 1, by omega, by go_num, os2.set (i + k) s2, hiw + c1 + c2, by rw [List.length_set]; exact HL2.out, words_set HW2.out _ _ P2.out, congrArg (Value.int .u64) hw3, P4.out, hstep.out, ?_⟩
            have := (HS2.out.setCell 3 rfl (i + k) (.int .u64 (s2 : Int))).drew
            rw [uvs_set] at this
            exact this
          case measure => simp [intOf]; try omega
        · obtain rfl : k = 4 := by omega
          have HS2 := hide hS2
          have HL2 := hide hol2
          have HW2 := hide how2
          have hT : lv os2 + ca * 18446744073709551616 ^ (i + 4) = lv zs + lv (xs.take (i + 1)) * lv ys := by
            have e4 : ys.take 4 = ys := List.take_of_length_le (by rw [HYL.out]; exact Nat.le_refl _)
            rw [hov2, HOV2.out, lv_take HX.out, Nat.add_mul, e4, Nat.add_assoc, Nat.mul_right_comm x]
          have HTT := hide hT
          clear hS2 hol2 how2 hT hov2
          go_wp2_with fail
          go_loopw [12, 17] (fun cv kv wr => ∃ k : Nat, k ≤ 8 ∧ i + 4 ≤ k ∧ kv = .int .i64 (k : Int) ∧ MaRel w g7 g8 g9 g10 xs ys zs (lv zs + lv (xs.take (i + 1)) * lv ys) k cv wr) (fun _ kv _ => 8 - (intOf kv).toNat)
          case atStart => exact ⟨i + 4, by omega, by omega, by go_num, os2, ca, HL2.out, HW2.out, rfl, hcaw, HTT.out, HS2.out⟩
          case round =>
            obtain ⟨k, hk8, hki, rfl, os3, cb', hol3, how3, rfl, hcbw, hov3, hS3⟩ := hrel
            clear HS2 HL2 HW2 HTT
            by_cases hlt3 : k < 8
            · obtain ⟨o, ho⟩ : ∃ o, os3[k]? = some o := ⟨os3[k]'(by omega), List.getElem?_eq_getElem _⟩
              have hoo := words_get how3 ho
              obtain ⟨a1, a2, a3⟩ := ad_spec o cb' 0 hoo hcbw (Nat.zero_le 1)
              have hstep := hide (car_step os3 k o _ cb' _ _ ho (by rw [Nat.add_zero] at a1; exact a1) hov3)
              have A1 := add0_any o cb'
              generalize adS o cb' 0 = s1 at *
              generalize adC o cb' 0 = c1 at *
              have HS3 := hide hS3
              have HL3 := hide hol3
              have HW3 := hide how3
              have AA2 := hide a2
              have co : wr.cell? ⟨g10, k, none⟩ = some (.int .u64 (o : Int)) := by
                rw [hS3.cell 3 rfl k]
                exact uvs_get ho
              have fo := hS3.free 3 rfl k
              clear hS3 hol3 how3 hov3 ho hoo a1 a2
              go_wp2_with fail
              go_roundw
              case rel =>
                refine ⟨k + 1, by omega, by omega, by go_num, os3.set k s1, c1, by rw [List.length_set]; exact HL3.out, words_set HW3.out _ _ AA2.out, rfl, by omega, hstep.out, ?_⟩
                have := HS3.out.setCell 3 rfl k (.int .u64 (s1 : Int))
                rw [uvs_set] at this
                exact this
              case measure => simp [intOf]; try omega
            · obtain rfl : k = 8 := by omega
              have hc0 : cb' = 0 := by
                have h1 := HBD.out
                rw [← lv_take HX.out, ← hov3] at h1
                rcases Nat.eq_zero_or_pos cb' with h | h
                · exact h
                · have : 18446744073709551616 ^ 8 ≤ cb' * 18446744073709551616 ^ 8 := Nat.le_mul_of_pos_left _ h
                  omega
              have HC0 := hide hc0
              have HS3 := hide hS3
              have HL3 := hide hol3
              have HW3 := hide how3
              have HO3 := hide hov3
              clear hS3 hol3 how3 hov3 hc0
              go_wp2_with fail
              go_roundw
              case rel => exact ⟨i + 1, by omega, by go_num, os3, 0, HL3.out, HW3.out, rfl, by omega, by rw [← HO3.out, HC0.out], HS3.out⟩
              case measure => simp [intOf]; try omega
    · obtain rfl : i = 4 := by omega
      have hv8 : lv os < 256 ^ 64 := by
        have := lv_lt os how
        rw [hol] at this
        rw [show (256 : Nat) ^ 64 = 18446744073709551616 ^ 8 from by decide]
        exact this
      have SP := fun W => spelt_walk (some ⟨g10, 0, none⟩) 8 8 os W hol (by omega)
      have hsp := spB_eq os how
      rw [hol, show 8 * 8 = 64 from rfl] at hsp
      have RD := fun (W : World) (A : Option Addr) (c : Nat) => reduce_walk A 64 c (leB 64 (lv os)) W (leB_len 64 _) (Nat.le_refl 64)
      rw [bval_leB, Nat.mod_eq_of_lt hv8] at RD
      have hfin : lv os = bval a * bval b + bval c := by
        rw [HOV2.out, List.take_of_length_le (by rw [HXL.out]; exact Nat.le_refl _), HXV.out, HYV.out, HZV.out, Nat.add_comm]
      rw [hfin] at RD hsp
      have HSP := hide SP
      have HRD := hide RD
      have HSPE := hide hsp
      have HS := hide hS
      clear SP RD hsp hS hv8 hfin how hov
      go_wp2_with (first
        | (go_at_call 146; refine (HSP.out _ (rd_cells HS.out 3 rfl 8 (by rw [uvs_len]; exact hol) (by decide))).mono ?_; rintro e w5 ⟨B5, d5, rfl, hb5, ho5⟩; rw [HSPE.out] at ho5 ⊢; rw [leB_len] at ho5 ⊢; have hS5 := HS.out.row hb5 ho5)
        | (go_at_call 97; refine (HRD.out _ B5 d5 (hS5.rd 0 rfl)).mono ?_; rintro e w6 ⟨B6, d6, rfl, hb6, ho6⟩; have hS6 := hS5.row hb6 ho6))
      go_ret
      exact resB_of hS6 0 rfl rfl
end Go.Proofs.YtnohmgpmmhlloaaGreatDoor.S3

namespace Go.Proofs.YtnohmgpmmhlloaaGreatDoor.S3
open Go.RowKit

theorem infoB : (Tryz.prog.info? 5).map (fun i => (i.zero, i.size, i.bytes)) = some (some (.int .u8 0), 1, 1) := by kernel_rfl
@[irreducible] def clA (c : Nat) : Nat := c &&& 248
@[irreducible] def clB (c : Nat) : Nat := (c &&& 127) ||| 64
theorem clA_lt (c : Nat) (h : c < 256) : clA c < 256 := by unfold clA; exact Nat.lt_of_le_of_lt Nat.and_le_left h
theorem clB_lt (c : Nat) (h : c < 256) : clB c < 256 := by unfold clB; exact Nat.or_lt_two_pow (n := 8) (Nat.lt_of_le_of_lt Nat.and_le_left h) (by omega)
theorem clA_eq (c : Nat) (h : c < 256) : bits .and .u8 (c : Int) 248 = (clA c : Int) := by unfold clA; exact u8_and_nat c 248 h (by omega)
theorem clB_eq (c : Nat) (h : c < 256) : bits .or .u8 (bits .and .u8 (c : Int) 127) 64 = (clB c : Int) := by
  have e1 : bits .and .u8 (c : Int) 127 = ((c &&& 127 : Nat) : Int) := u8_and_nat c 127 h (by omega)
  have hlt : c &&& 127 < 256 := Nat.lt_of_le_of_lt Nat.and_le_left h
  rw [e1, u8_or _ _ (by omega) (by omega) (by omega) (by omega)]
  unfold clB
  rfl
@[irreducible] def clampL (l : List UInt8) : List UInt8 := (l.set 0 (UInt8.ofNat (clA ((l.getD 0 0).toNat)))).set 31 (UInt8.ofNat (clB ((l.getD 31 0).toNat)))
theorem clampL_eq (l : List UInt8) (a b : UInt8) (ha : l[0]? = some a) (hb : l[31]? = some b) : clampL l = (l.set 0 (UInt8.ofNat (clA a.toNat))).set 31 (UInt8.ofNat (clB b.toNat)) := by
  unfold clampL
  rw [List.getD_eq_getElem?_getD, List.getD_eq_getElem?_getD, ha, hb]
  rfl
theorem clampL_len (l : List UInt8) : (clampL l).length = l.length := by unfold clampL; simp
set_option maxRecDepth 100000 in
set_option maxHeartbeats 800000 in
theorem clamp_walk (A : Option Addr) (c : Nat) (l : List UInt8) (w : World) (hl : l.length = 32) (hr : Rd w (.slice A 32 c) 1 32 (bvs l)) :
    Calls Tryz.prog 76 #[.slice A 32 c] w (ResB 5 w (clampL l)) := by
  obtain ⟨a, ha⟩ : ∃ a, l[0]? = some a := ⟨l[0], List.getElem?_eq_getElem _⟩
  obtain ⟨b, hb⟩ : ∃ b, l[31]? = some b := ⟨l[31], List.getElem?_eq_getElem _⟩
  have e := clampL_eq l a b ha hb
  have a2 := UInt8.toNat_lt a
  have b2 := UInt8.toNat_lt b
  have ga := bvs_get ha
  have gb := bvs_get hb
  obtain ⟨an, han⟩ : ∃ an, an = a.toNat := ⟨_, rfl⟩
  obtain ⟨bn, hbn⟩ : ∃ bn, bn = b.toNat := ⟨_, rfl⟩
  rw [← han] at e a2 ga
  rw [← hbn] at e b2 gb
  have eA := clA_eq an a2
  have eB := clB_eq bn b2
  have hS := St.init w NoB
  have HR := hide hr
  have HE := hide e
  have HL := hide hl
  have GA := hide ga
  have GB := hide gb
  have LA := hide (clA_lt an a2)
  have LB := hide (clB_lt bn b2)
  clear hr e hl ga gb ha hb han hbn
  go_enter Tryz.func76, Tryz.ntmps76
  go_wp2_with (at_builtin; refine wl_append0 rfl rfl tyB hS rfl rfl HR.out (one_bvs _) (by omega) (by decide) ?_; intro A1 c1 w1 hS1; obtain ⟨g, c1', hv, hc1, hcm, hcs, hfr, _⟩ := hS1.rowOpen 0 rfl (by omega); injection hv with hv1 _ hv3; subst hv1 hv3; have k0 := hcs 0 _ GA.out; have k31 := hcs 31 _ GB.out; have f0 := hfr 0; have f31 := hfr 31; have HS1 := hide hS1; clear hS1 hcs hfr)
  go_ret
  have h2 := (HS1.out.rowSet 0 rfl 0 (.int .u8 (clA an : Nat)) (by omega)).rowSet 0 rfl 31 (.int .u8 (clB bn : Nat)) (by omega)
  rw [bvs_set _ _ _ LA.out, bvs_set _ _ _ LB.out, ← HE.out] at h2
  have h3 := resB_of (l := clampL l) h2 0 rfl rfl
  exact h3
@[irreducible] def fullL (l : List UInt8) : List UInt8 := (l ++ List.replicate 32 0).take 32
theorem fullL_len (l : List UInt8) : (fullL l).length = 32 := by unfold fullL; rw [List.length_take, List.length_append, List.length_replicate]; omega
end Go.Proofs.YtnohmgpmmhlloaaGreatDoor.S3

namespace Go.Proofs.YtnohmgpmmhlloaaGreatDoor.S3
open Go.RowKit

@[irreducible] def zz : List UInt8 := List.replicate 32 0
end Go.Proofs.YtnohmgpmmhlloaaGreatDoor.S3

namespace Go.Proofs.YtnohmgpmmhlloaaGreatDoor.S3
open Go.RowKit

theorem rd_mid {w : World} {b o n c : Nat} {l : List UInt8} (h : Rd w (.slice (some ⟨b, o, none⟩) n c) 1 n (bvs l)) (i j : Nat) (hij : i ≤ j) (hj : j ≤ n) :
    Rd w (.slice (some ⟨b, o + i, none⟩) (j - i) (c - i)) 1 (j - i) (bvs ((l.drop i).take (j - i))) := by
  obtain ⟨A', c', e, h1, h2, h3, h4, h5⟩ := h
  injection e with e1 _ e3
  subst e1 e3
  rw [length_bvs] at h1
  refine ⟨_, _, rfl, by rw [length_bvs, List.length_take, List.length_drop]; omega, by omega, by omega, (fun h => by cases h), ?_⟩
  intro b' o' sp' hA
  injection hA with hA
  injection hA with k1 k2 k3
  subst k1 k2 k3
  refine ⟨fun _ => rfl, fun k u hu => ?_⟩
  obtain ⟨x, hx, rfl⟩ : ∃ x, ((l.drop i).take (j - i))[k]? = some x ∧ u = .int .u8 (x.toNat : Int) := by
    simp only [bvs, List.getElem?_map, Option.map_eq_some_iff] at hu
    obtain ⟨x, h1, h2⟩ := hu
    exact ⟨x, h1, h2.symm⟩
  have hk : k < j - i := by
    have := (List.getElem?_eq_some_iff.1 hx).1
    rw [List.length_take] at this
    omega
  rw [List.getElem?_take_of_lt hk, List.getElem?_drop] at hx
  have := (h5 b o none rfl).2 (i + k) _ (bvs_get hx)
  rwa [show o + (i + k) = o + i + k from by omega] at this

theorem rd_at {w : World} {b o n c size : Nat} {xs : List Value} (h : Rd w (.slice (some ⟨b, o, none⟩) n c) size n xs) {j : Nat} {u : Value} (hu : xs[j]? = some u) : w.cell? ⟨b, o + j, none⟩ = some u := by
  obtain ⟨A', c', e, _, _, _, _, h5⟩ := h
  injection e with e1 _ _
  subst e1
  exact (h5 b o none rfl).2 j u hu
end Go.Proofs.YtnohmgpmmhlloaaGreatDoor.S3

namespace Go.Proofs.YtnohmgpmmhlloaaGreatDoor.S3
open Go.RowKit

@[irreducible] def madL (a b c : List UInt8) : List UInt8 := leB 32 ((bval a * bval b + bval c) % Lq)
@[irreducible] def redL (a : List UInt8) : List UInt8 := leB 32 (bval a % Lq)
theorem madL_len (a b c : List UInt8) : (madL a b c).length = 32 := by unfold madL; exact leB_len _ _
theorem redL_len (a : List UInt8) : (redL a).length = 32 := by unfold redL; exact leB_len _ _
theorem Lq_256 : Lq < 256 ^ 32 := by unfold Lq; decide
theorem bval_mod (n : Nat) : bval (leB 32 (n % Lq)) = n % Lq := by
  rw [bval_leB, Nat.mod_eq_of_lt]
  exact Nat.lt_trans (Nat.mod_lt _ Lq_lt.2) Lq_256
theorem bval_madL (a b c : List UInt8) : bval (madL a b c) = (bval a * bval b + bval c) % Lq := by unfold madL; exact bval_mod _
theorem may_of (l : List UInt8) (h : l.length = 32) (hv : bval l < Lq) : mayS l = true := by unfold mayS; rw [decide_eq_true h, decide_eq_true hv]; rfl
theorem may_madL (a b c : List UInt8) : mayS (madL a b c) = true := may_of _ (madL_len a b c) (by rw [bval_madL]; exact Nat.mod_lt _ Lq_lt.2)
end Go.Proofs.YtnohmgpmmhlloaaGreatDoor.S3

namespace Go.Proofs.YtnohmgpmmhlloaaGreatDoor.S1
open Go.RowKit

abbrev W1 : Nat := 18446744073709551616
@[irreducible] def rot (x n : Nat) : Nat := x / 2 ^ n ||| x * 2 ^ (64 - n) % W1
theorem or_lt (a b : Nat) (ha : a < W1) (hb : b < W1) : a ||| b < W1 := Nat.or_lt_two_pow (n := 64) ha hb
theorem xor_lt (a b : Nat) (ha : a < W1) (hb : b < W1) : a ^^^ b < W1 := Nat.xor_lt_two_pow (n := 64) ha hb
theorem and_lt (a b : Nat) (ha : a < W1) : a &&& b < W1 := Nat.lt_of_le_of_lt Nat.and_le_left ha
theorem rot_lt (x n : Nat) (hx : x < W1) : rot x n < W1 := by
  unfold rot
  exact or_lt _ _ (Nat.lt_of_le_of_lt (Nat.div_le_self _ _) hx) (Nat.mod_lt _ (by decide))
@[irreducible] def mix (x a b c : Nat) : Nat := (rot x a ^^^ rot x b) ^^^ rot x c
@[irreducible] def spr (x a b s : Nat) : Nat := (rot x a ^^^ rot x b) ^^^ x / 2 ^ s
theorem rot_l (x s : Nat) (hx : x < W1) : bits .or .u64 (IntKind.u64.wrap ((x : Int) * 2 ^ s)) ((x : Int) / 2 ^ (64 - s)) = ((x / 2 ^ (64 - s) ||| x * 2 ^ s % W1 : Nat) : Int) := by
  have e1 : IntKind.u64.wrap ((x : Int) * 2 ^ s) = ((x * 2 ^ s % W1 : Nat) : Int) := by
    rw [IntKind.wrap_u64, show (x : Int) * 2 ^ s = ((x * 2 ^ s : Nat) : Int) from by rw [Int.natCast_mul, Int.natCast_pow]; rfl]
    rfl
  have e2 : (x : Int) / 2 ^ (64 - s) = ((x / 2 ^ (64 - s) : Nat) : Int) := by
    rw [Int.natCast_ediv, Int.natCast_pow]
    rfl
  rw [e1, e2, u64_or_nat _ _ (Nat.mod_lt _ (by decide)) (Nat.lt_of_le_of_lt (Nat.div_le_self _ _) hx), Nat.or_comm]
set_option maxRecDepth 100000 in
set_option maxHeartbeats 800000 in
theorem rotl_walk (x n : Nat) (w : World) (hx : x < W1) (h1 : 1 ≤ n) (h2 : n ≤ 63) :
    Calls Tryz.prog 183 #[.int .u64 (x : Int), .int .i64 (-(n : Int))] w fun e w' => e = .returned (.int .u64 (rot x n : Int)) ∧ w = w' := by
  have hm : bits .and .u64 (IntKind.u64.wrap (-(n : Int))) 63 = ((64 - n : Nat) : Int) := by
    have e : IntKind.u64.wrap (-(n : Int)) = ((W1 - n : Nat) : Int) := by rw [IntKind.wrap_u64]; unfold W1; omega
    have h := u64_and_nat (W1 - n) 63 (by unfold W1; omega) (by omega)
    rw [show (W1 - n) &&& 63 = (W1 - n) % 64 from Nat.and_two_pow_sub_one_eq_mod _ 6] at h
    rw [e]
    refine h.trans ?_
    unfold W1
    omega
  have hr := rot_l x (64 - n) hx
  obtain ⟨s, hs⟩ : ∃ s, s = 64 - n := ⟨_, rfl⟩
  rw [show 64 - (64 - n) = 64 - s from by omega, ← hs] at hr
  have he : (x / 2 ^ (64 - s) ||| x * 2 ^ s % W1) = rot x n := by unfold rot; rw [show 64 - s = n from by omega, hs]
  rw [he] at hr
  rw [← hs] at hm
  have s1 : 1 ≤ s := by omega
  have s2 : s ≤ 63 := by omega
  have HR := hide hr
  clear hs he hr
  go_enter Tryz.func183, Tryz.ntmps183
  go_wp2_with fail
  go_ret
  exact ⟨congrArg (fun z => Ending.returned (.int .u64 z)) HR.out, rfl⟩
set_option maxRecDepth 100000 in
set_option maxHeartbeats 800000 in
theorem rotated_any (x n : Nat) (w : World) (hx : x < W1) (h1 : 1 ≤ n) (h2 : n ≤ 63) :
    Calls Tryz.prog 179 #[.int .u64 (x : Int), .int .i64 (n : Int)] w fun e w' => e = .returned (.int .u64 (rot x n : Int)) ∧ w = w' := by
  have HC := hide (fun W => rotl_walk x n W hx h1 h2)
  go_enter Tryz.func179, Tryz.ntmps179
  go_wp2_with (go_at_call 183; refine (HC.out _).mono ?_; rintro e w1 ⟨rfl, rfl⟩)
  go_ret
  exact ⟨rfl, rfl⟩
set_option maxRecDepth 100000 in
set_option maxHeartbeats 800000 in
theorem mixes_any (x a b c : Nat) (w : World) (hx : x < W1) (ha : 1 ≤ a ∧ a ≤ 63) (hb : 1 ≤ b ∧ b ≤ 63) (hc : 1 ≤ c ∧ c ≤ 63) :
    Calls Tryz.prog 164 #[.int .u64 (x : Int), .int .i64 (a : Int), .int .i64 (b : Int), .int .i64 (c : Int)] w fun e w' => e = .returned (.int .u64 (mix x a b c : Int)) ∧ w = w' := by
  have x1 := u64_xor_nat (rot x a) (rot x b) (rot_lt x a hx) (rot_lt x b hx)
  have x2 := u64_xor_nat (rot x a ^^^ rot x b) (rot x c) (xor_lt _ _ (rot_lt x a hx) (rot_lt x b hx)) (rot_lt x c hx)
  have HA := hide (fun W => rotated_any x a W hx ha.1 ha.2)
  have HB := hide (fun W => rotated_any x b W hx hb.1 hb.2)
  have HC := hide (fun W => rotated_any x c W hx hc.1 hc.2)
  have he : (rot x a ^^^ rot x b) ^^^ rot x c = mix x a b c := by unfold mix; rfl
  rw [he] at x2
  generalize mix x a b c = y2 at *
  generalize rot x a ^^^ rot x b = y1 at *
  generalize rot x a = r1 at *
  generalize rot x b = r2 at *
  generalize rot x c = r3 at *
  clear he ha hb hc hx
  go_enter Tryz.func164, Tryz.ntmps164
  go_wp2_with (first
    | (have _q := q2; go_at_call 179; refine (HC.out _).mono ?_; rintro e w1 ⟨rfl, rfl⟩; have q3 : True := trivial)
    | (have _q := q1; go_at_call 179; refine (HB.out _).mono ?_; rintro e w1 ⟨rfl, rfl⟩; have q2 : True := trivial)
    | (go_at_call 179; refine (HA.out _).mono ?_; rintro e w1 ⟨rfl, rfl⟩; have q1 : True := trivial))
  go_ret
  exact ⟨rfl, rfl⟩
theorem enRotated (args : Array Value) (w : World) : (callFunc 179 args).run Tryz.prog w = .ok (.enter 179 args) w := by kernel_rfl
set_option maxRecDepth 100000 in
set_option maxHeartbeats 800000 in
theorem spread_any (x a b s : Nat) (w : World) (hx : x < W1) (ha : 1 ≤ a ∧ a ≤ 63) (hb : 1 ≤ b ∧ b ≤ 63) (hs : s ≤ 63) :
    Calls Tryz.prog 178 #[.int .u64 (x : Int), .int .i64 (a : Int), .int .i64 (b : Int), .int .i64 (s : Int)] w fun e w' => e = .returned (.int .u64 (spr x a b s : Int)) ∧ Below w.heap.size w w' := by
  have x1 := u64_xor_nat (rot x a) (rot x b) (rot_lt x a hx) (rot_lt x b hx)
  have x2 := u64_xor_nat (rot x a ^^^ rot x b) (x / 2 ^ s) (xor_lt _ _ (rot_lt x a hx) (rot_lt x b hx)) (Nat.lt_of_le_of_lt (Nat.div_le_self _ _) hx)
  rw [show (((x / 2 ^ s : Nat)) : Int) = (x : Int) / 2 ^ s from by rw [Int.natCast_ediv, Int.natCast_pow]; rfl] at x2
  have HA := hide (fun W => rotated_any x a W hx ha.1 ha.2)
  have HB := hide (fun W => rotated_any x b W hx hb.1 hb.2)
  have he : (rot x a ^^^ rot x b) ^^^ x / 2 ^ s = spr x a b s := by unfold spr; rfl
  rw [he] at x2
  generalize spr x a b s = y2 at *
  generalize rot x a ^^^ rot x b = y1 at *
  generalize rot x a = r1 at *
  generalize rot x b = r2 at *
  clear he ha hb hx
  go_enter Tryz.func178, Tryz.ntmps178
  go_wp2_with fail
  refine wp_region_F (by kernel_rfl) ?_
  (refine wpG_take (i := 0) (v := ?_) rfl (by kernel_rfl) (by kernel_rfl) (by kernel_rfl) (fun _ _ _ h => h) ((From.refl w.drew)) (Or.inl ⟨by first | kernel_rfl | rfl, ?_⟩) ?_; rotate_left; (intro wx hx; go_simp) <;> (with_reducible rfl); (try simp only [Act.put, nq1, nq2, nq3, nq4, nq5, nq6])); (refine wpG_take (i := 1) (v := ?_) rfl (by kernel_rfl) (by kernel_rfl) (by kernel_rfl) (fun _ _ _ h => h) ((From.refl w.drew)) (Or.inl ⟨by first | kernel_rfl | rfl, ?_⟩) ?_; rotate_left; (intro wx hx; go_simp) <;> (with_reducible rfl); (try simp only [Act.put, nq1, nq2, nq3, nq4, nq5, nq6])); (refine wpG_take (i := 3) (v := ?_) rfl (by kernel_rfl) (by kernel_rfl) (by kernel_rfl) (fun _ _ _ h => h) ((From.refl w.drew)) (Or.inl ⟨by first | kernel_rfl | rfl, ?_⟩) ?_; rotate_left; (intro wx hx; go_simp) <;> (with_reducible rfl); (try simp only [Act.put, nq1, nq2, nq3, nq4, nq5, nq6])); (refine wpG_take (i := 4) (v := ?_) rfl (by kernel_rfl) (by kernel_rfl) (by kernel_rfl) (fun _ _ _ h => h) ((From.refl w.drew)) (Or.inl ⟨by first | kernel_rfl | rfl, ?_⟩) ?_; rotate_left; (intro wx hx; go_simp) <;> (with_reducible rfl); (try simp only [Act.put, nq1, nq2, nq3, nq4, nq5, nq6])); (refine wpG_take (i := 7) (v := ?_) rfl (by kernel_rfl) (by kernel_rfl) (by kernel_rfl) (fun _ _ _ h => h) ((From.refl w.drew)) (Or.inl ⟨by first | kernel_rfl | rfl, ?_⟩) ?_; rotate_left; (intro wx hx; go_simp) <;> (with_reducible rfl); (try simp only [Act.put, nq1, nq2, nq3, nq4, nq5, nq6])); (refine wpG_take (i := 8) (v := ?_) rfl (by kernel_rfl) (by kernel_rfl) (by kernel_rfl) (fun _ _ _ h => h) ((From.refl w.drew)) (Or.inl ⟨by first | kernel_rfl | rfl, ?_⟩) ?_; rotate_left; (intro wx hx; go_simp) <;> (with_reducible rfl); (try simp only [Act.put, nq1, nq2, nq3, nq4, nq5, nq6])); (refine wpG_take (i := 9) (v := ?_) rfl (by kernel_rfl) (by kernel_rfl) (by kernel_rfl) (fun _ _ _ h => h) ((From.refl w.drew)) (Or.inl ⟨by first | kernel_rfl | rfl, ?_⟩) ?_; rotate_left; (intro wx hx; go_simp) <;> (with_reducible rfl); (try simp only [Act.put, nq1, nq2, nq3, nq4, nq5, nq6]))
  (refine wpG_one (i := 2) (by kernel_rfl) rfl ?_; intro K hK; (try simp only [Act.put, nq1, nq2, nq3, nq4, nq5, nq6]))
  refine step_call rfl rfl enRotated rfl (HA.out _) ?_
  rintro e v1 ⟨rfl, rfl⟩
  refine ⟨_, rfl, hK (From w.drew) _ _ (fun _ h => h) (From.refl w.drew) ?_⟩
  clear hK K
  (try simp only [Act.put, nq1, nq2, nq3, nq4, nq5, nq6])
  (refine wpG_one (i := 5) (by kernel_rfl) rfl ?_; intro K hK; (try simp only [Act.put, nq1, nq2, nq3, nq4, nq5, nq6]))
  refine step_call rfl rfl enRotated rfl (HB.out _) ?_
  rintro e v2 ⟨rfl, rfl⟩
  refine ⟨_, rfl, hK (From w.drew) _ _ (fun _ h => h) (From.refl w.drew) ?_⟩
  clear hK K
  (try simp only [Act.put, nq1, nq2, nq3, nq4, nq5, nq6])
  (refine wpG_take (i := 6) (v := ?_) rfl (by kernel_rfl) (by kernel_rfl) (by kernel_rfl) (fun _ _ _ h => h) ((From.refl w.drew)) (Or.inl ⟨by first | kernel_rfl | rfl, ?_⟩) ?_; rotate_left; (intro wx hx; go_simp) <;> (with_reducible rfl); (try simp only [Act.put, nq1, nq2, nq3, nq4, nq5, nq6])); (refine wpG_take (i := 10) (v := ?_) rfl (by kernel_rfl) (by kernel_rfl) (by kernel_rfl) (fun _ _ _ h => h) ((From.refl w.drew)) (Or.inl ⟨by first | kernel_rfl | rfl, ?_⟩) ?_; rotate_left; (intro wx hx; go_simp) <;> (with_reducible rfl); (try simp only [Act.put, nq1, nq2, nq3, nq4, nq5, nq6])); (refine wpG_take (i := 11) (v := ?_) rfl (by kernel_rfl) (by kernel_rfl) (by kernel_rfl) (fun _ _ _ h => h) ((From.refl w.drew)) (Or.inl ⟨by first | kernel_rfl | rfl, ?_⟩) ?_; rotate_left; (intro wx hx; go_simp) <;> (with_reducible rfl); (try simp only [Act.put, nq1, nq2, nq3, nq4, nq5, nq6]))
  refine wpG_done (by kernel_rfl) ?_ _
  go_wp2_with fail
  go_ret
  exact ⟨rfl, (Below.refl _ _).drew⟩
end Go.Proofs.YtnohmgpmmhlloaaGreatDoor.S1
