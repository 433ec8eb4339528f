/-
  Joined of texts of mine, in build order: Bm, Bg, Bh, Bi, Bj, Bn, Bo. Each says what it proves at its own head.
-/
import Derived.Test.YtkelegjppnfoaaaDoorPd
set_option linter.unusedSimpArgs false
set_option linter.unusedVariables false

/-
  Layer 4: the code's Root.
-/
namespace Go.Proofs.YtkelegjppnfoaaaDoor
open Go.RowKit
set_option linter.unusedSimpArgs false

set_option maxRecDepth 100000 in
set_option maxHeartbeats 800000 in
theorem squareA {a : Array Value} {X : FK} (w : World) (ha : EA a X) : Calls Tryd.prog 60 #[.agg a] w (ResE w (X * X)) := by
  have HS := hide (St.init w NoB)
  go_enter Tryd.func60, Tryd.ntmps60
  go_wp2_with (first | (go_at_call 33; (with_reducible refine (mulA _ (by assumption) (by assumption)).mono ?_); rintro e wy ⟨z, hz, rfl, hb⟩; try have HS := hide (HS.out.call hb)) | (go_at_call 45; (with_reducible refine (addA _ (by assumption) (by assumption)).mono ?_); rintro e wy ⟨z, hz, rfl, hb⟩; try have HS := hide (HS.out.call hb)) | (go_at_call 43; (with_reducible refine (subA _ (by assumption) (by assumption)).mono ?_); rintro e wy ⟨z, hz, rfl, hb⟩; try have HS := hide (HS.out.call hb)) | (go_at_call 46; (with_reducible refine (negA _ (by assumption)).mono ?_); rintro e wy ⟨z, hz, rfl, hb⟩; try have HS := hide (HS.out.call hb)) | (go_at_call 32; (with_reducible refine (invA _ (by assumption)).mono ?_); rintro e wy ⟨z, hz, rfl, hb⟩; try have HS := hide (HS.out.call hb)) | (refine wl_loadP rfl rfl rfl HS.out (by (repeat first | exact .head _ | apply List.Mem.tail)) (by first | exact rowE | exact rowP | exact rowN | exact rowQ) (by (first | exact .q0 (EA.arr ‹_›) | exact .q1 (EA.arr ‹_›) (EA.arr ‹_›) | exact .q2 (EA.arr ‹_›) (EA.arr ‹_›) (EA.arr ‹_›) | exact .q3 (EA.arr ‹_›) (EA.arr ‹_›) (EA.arr ‹_›) (EA.arr ‹_›) | exact .q0 (NA.arr ‹_›) | exact .q1 (NA.arr ‹_›) (NA.arr ‹_›) | exact .q2 (NA.arr ‹_›) (NA.arr ‹_›) (NA.arr ‹_›) | exact .q3 (NA.arr ‹_›) (NA.arr ‹_›) (NA.arr ‹_›) (NA.arr ‹_›) | exact .all (by (first | exact EA.arr ‹_› | exact NA.arr ‹_› | exact arr_zE | exact arr_zN | exact arr_zP | exact arr_zQ | exact PtN.arr ‹_› | exact PtV.arr ‹_› | exact QtN.arr ‹_› | exact qE ‹_› ‹_› ‹_› ‹_› | exact qN ‹_› ‹_› ‹_› ‹_›)))) ?_; (try simp only [Act.put, nq1, nq2, nq3, nq4, nq5, nq6])) | (refine wl_storeR rfl rfl rfl rfl HS.out (by first | exact rowE | exact rowP | exact rowN | exact rowQ) (by (repeat first | exact .head | apply Upd.tail)) (by (first | exact EA.arr ‹_› | exact NA.arr ‹_› | exact arr_zE | exact arr_zN | exact arr_zP | exact arr_zQ | exact PtN.arr ‹_› | exact PtV.arr ‹_› | exact QtN.arr ‹_› | exact qE ‹_› ‹_› ‹_› ‹_› | exact qN ‹_› ‹_› ‹_› ‹_›)) (by (first | exact EA.arr ‹_› | exact NA.arr ‹_› | exact arr_zE | exact arr_zN | exact arr_zP | exact arr_zQ | exact PtN.arr ‹_› | exact PtV.arr ‹_› | exact QtN.arr ‹_› | exact qE ‹_› ‹_› ‹_› ‹_› | exact qN ‹_› ‹_› ‹_› ‹_›)) ?_; intro wz hS9; have HS := hide hS9; clear hS9; (try simp only [Act.put, nq1, nq2, nq3, nq4, nq5, nq6])) | (refine wl_allocR rfl rfl HS.out (by first | exact newE | exact newP | exact newN | exact newQ) ?_; intro gz wz hS9; have HS := hide hS9; clear hS9; (try simp only [Act.put, nq1, nq2, nq3, nq4, nq5, nq6])) | (refine wl_boxR rfl rfl rfl HS.out ?_; intro gz wz hS9; have HS := hide hS9; clear hS9; (try simp only [Act.put, nq1, nq2, nq3, nq4, nq5, nq6])))
  refine bodyPost_ret (results_cell_row rfl _ _ _ _ _ _ _ rfl (HS.out.heapM (by (repeat first | exact .head _ | apply List.Mem.tail))) Tryd.underlying34 rfl (by first | (rw [(EA.arr ‹_›).size]; kernel_rfl) | (rw [(NA.arr ‹_›).size]; kernel_rfl) | (rw [(qE ‹_› ‹_› ‹_› ‹_›).size]; kernel_rfl) | (rw [(qN ‹_› ‹_› ‹_› ‹_›).size]; kernel_rfl) | (rw [(PtN.arr ‹_›).size]; kernel_rfl) | (rw [(PtV.arr ‹_›).size]; kernel_rfl) | (rw [(QtN.arr ‹_›).size]; kernel_rfl))) rfl ?_
  exact ⟨_, by assumption, rfl, HS.out.below⟩
theorem en36_rt (args : Array Value) (w : World) : (callFunc 33 args).run Tryd.prog w = .ok (.enter 33 args) w := by kernel_rfl
theorem en45_rt (args : Array Value) (w : World) : (callFunc 46 args).run Tryd.prog w = .ok (.enter 46 args) w := by kernel_rfl
theorem en48_rt (args : Array Value) (w : World) : (callFunc 44 args).run Tryd.prog w = .ok (.enter 44 args) w := by kernel_rfl
theorem en61_rt (args : Array Value) (w : World) : (callFunc 56 args).run Tryd.prog w = .ok (.enter 56 args) w := by kernel_rfl
theorem en67_rt (args : Array Value) (w : World) : (callFunc 60 args).run Tryd.prog w = .ok (.enter 60 args) w := by kernel_rfl
theorem en68_rt (args : Array Value) (w : World) : (callFunc 61 args).run Tryd.prog w = .ok (.enter 61 args) w := by kernel_rfl
set_option maxRecDepth 100000 in
set_option maxHeartbeats 6400000 in
theorem root_any {u v : Array Value} {U V : FK} (w : World) (hu : EA u U) (hv : EA v V) :
    Calls Tryd.prog 42 #[.agg u, .agg v] w fun e w' => ∃ x, EA x ((rtF U V).getD 0) ∧ e = .returned (.tuple #[.agg x, .bool (rtF U V).isSome]) ∧ Below w.heap.size w w' := by
  have HS := hide (St.init w NoB)
  go_enter Tryd.func42, Tryd.ntmps42
  go_wp2_with (first | (refine wl_loadP rfl rfl rfl HS.out (by (repeat first | exact .head _ | apply List.Mem.tail)) (by first | exact rowE | exact rowP | exact rowN | exact rowQ) (by (first | exact .q0 (EA.arr ‹_›) | exact .q1 (EA.arr ‹_›) (EA.arr ‹_›) | exact .q2 (EA.arr ‹_›) (EA.arr ‹_›) (EA.arr ‹_›) | exact .q3 (EA.arr ‹_›) (EA.arr ‹_›) (EA.arr ‹_›) (EA.arr ‹_›) | exact .q0 (NA.arr ‹_›) | exact .q1 (NA.arr ‹_›) (NA.arr ‹_›) | exact .q2 (NA.arr ‹_›) (NA.arr ‹_›) (NA.arr ‹_›) | exact .q3 (NA.arr ‹_›) (NA.arr ‹_›) (NA.arr ‹_›) (NA.arr ‹_›) | exact .all (by (first | exact EA.arr ‹_› | exact NA.arr ‹_› | exact arr_zE | exact arr_zN | exact arr_zP | exact arr_zQ | exact PtN.arr ‹_› | exact PtV.arr ‹_› | exact QtN.arr ‹_› | exact qE ‹_› ‹_› ‹_› ‹_› | exact qN ‹_› ‹_› ‹_› ‹_›)))) ?_; (try simp only [Act.put, nq1, nq2, nq3, nq4, nq5, nq6])) | (refine wl_storeR rfl rfl rfl rfl HS.out (by first | exact rowE | exact rowP | exact rowN | exact rowQ) (by (repeat first | exact .head | apply Upd.tail)) (by (first | exact EA.arr ‹_› | exact NA.arr ‹_› | exact arr_zE | exact arr_zN | exact arr_zP | exact arr_zQ | exact PtN.arr ‹_› | exact PtV.arr ‹_› | exact QtN.arr ‹_› | exact qE ‹_› ‹_› ‹_› ‹_› | exact qN ‹_› ‹_› ‹_› ‹_›)) (by (first | exact EA.arr ‹_› | exact NA.arr ‹_› | exact arr_zE | exact arr_zN | exact arr_zP | exact arr_zQ | exact PtN.arr ‹_› | exact PtV.arr ‹_› | exact QtN.arr ‹_› | exact qE ‹_› ‹_› ‹_› ‹_› | exact qN ‹_› ‹_› ‹_› ‹_›)) ?_; intro wz hS9; have HS := hide hS9; clear hS9; (try simp only [Act.put, nq1, nq2, nq3, nq4, nq5, nq6])) | (refine wl_allocR rfl rfl HS.out (by first | exact newE | exact newP | exact newN | exact newQ) ?_; intro gz wz hS9; have HS := hide hS9; clear hS9; (try simp only [Act.put, nq1, nq2, nq3, nq4, nq5, nq6])) | (refine wl_boxR rfl rfl rfl HS.out ?_; intro gz wz hS9; have HS := hide hS9; clear hS9; (try simp only [Act.put, nq1, nq2, nq3, nq4, nq5, nq6])))
  have HS := hide HS.out.drew
  refine wp_region_XE [(4, 6)] [(0, 0), (2, 0), (1, 2), (3, 2)] (.op 5 2 (.nil)) zE 34 (by kernel_rfl) (by kernel_rfl) (by kernel_rfl) (by intro p hp; simp only [List.mem_cons, List.not_mem_nil, or_false] at hp; subst hp <;> exact flOp_of rfl rfl rfl (fun ev x => run_allocR rfl newE ev x)) (fun _ _ _ _ h => h) ?_
  refine wpX_loadP rfl rfl rfl rfl HS.out (.tail _ (.head _)) rowE (.all (by first | exact EA.arr ‹_› | exact arr_zE)) ?_; (try simp only [Act.put, nq1, nq2, nq3, nq4, nq5, nq6])
  refine wpX_loadP rfl rfl rfl rfl HS.out (.tail _ (.head _)) rowE (.all (by first | exact EA.arr ‹_› | exact arr_zE)) ?_; (try simp only [Act.put, nq1, nq2, nq3, nq4, nq5, nq6])
  refine wpX_callF rfl rfl rfl en67_rt rfl (fun x => squareA x ‹_›) ?_; rintro xw e wy ⟨z, hz, rfl, hb⟩; refine ⟨_, rfl, hb, ?_⟩; (try simp only [Act.put, nq1, nq2, nq3, nq4, nq5, nq6])
  refine wpX_callF rfl rfl rfl en36_rt rfl (fun x => mulA x ‹_› ‹_›) ?_; rintro xw e wy ⟨z, hz, rfl, hb⟩; refine ⟨_, rfl, hb, ?_⟩; (try simp only [Act.put, nq1, nq2, nq3, nq4, nq5, nq6])
  refine wpX_nil ?_; intro G xz hx0 hx hF; have hS9 := HS.out.floats hx0 hF _ (by decide) (fun _ h => h); simp only [List.map_cons, List.map_nil, List.cons_append, List.nil_append] at hS9; have HS := hide hS9; have HX := hide hx0; have HG := hide hF.at_; clear hS9 hF hx0 hx; simp only [putsE, List.foldl_cons, List.foldl_nil]; (try simp only [Act.put, nq1, nq2, nq3, nq4, nq5, nq6])
  refine wpS_storeF rfl rfl rfl rfl rfl HS.out HX.out (HG.out 4 (by simp)).1 rowE (.head) (by first | exact EA.arr ‹_› | exact arr_zE) (by first | exact EA.arr ‹_› | exact arr_zE) ?_; intro wz hS9 hX9; have HS := hide hS9; have HX := hide hX9; clear hS9 hX9; (try simp only [Act.put, nq1, nq2, nq3, nq4, nq5, nq6])
  refine wpS_nil ?_
  go_wp2_with fail
  have HS := hide HS.out.drew
  refine wp_region_XE [(11, 7)] [(0, 0), (1, 0), (3, 0), (4, 0), (7, 0), (2, 2), (5, 2), (6, 2), (8, 2), (9, 2), (10, 2)] (.op 12 2 (.nil)) zE 34 (by kernel_rfl) (by kernel_rfl) (by kernel_rfl) (by intro p hp; simp only [List.mem_cons, List.not_mem_nil, or_false] at hp; subst hp <;> exact flOp_of rfl rfl rfl (fun ev x => run_allocR rfl newE ev x)) (fun _ _ _ _ h => h) ?_
  refine wpX_loadP rfl rfl rfl rfl HS.out (.tail _ (.tail _ (.tail _ (.head _)))) rowE (.all (by first | exact EA.arr ‹_› | exact arr_zE)) ?_; (try simp only [Act.put, nq1, nq2, nq3, nq4, nq5, nq6])
  refine wpX_loadP rfl rfl rfl rfl HS.out (.head _) rowE (.all (by first | exact EA.arr ‹_› | exact arr_zE)) ?_; (try simp only [Act.put, nq1, nq2, nq3, nq4, nq5, nq6])
  refine wpX_loadP rfl rfl rfl rfl HS.out (.tail _ (.tail _ (.tail _ (.head _)))) rowE (.all (by first | exact EA.arr ‹_› | exact arr_zE)) ?_; (try simp only [Act.put, nq1, nq2, nq3, nq4, nq5, nq6])
  refine wpX_loadP rfl rfl rfl rfl HS.out (.head _) rowE (.all (by first | exact EA.arr ‹_› | exact arr_zE)) ?_; (try simp only [Act.put, nq1, nq2, nq3, nq4, nq5, nq6])
  refine wpX_loadP rfl rfl rfl rfl HS.out (.tail _ (.tail _ (.head _))) rowE (.all (by first | exact EA.arr ‹_› | exact arr_zE)) ?_; (try simp only [Act.put, nq1, nq2, nq3, nq4, nq5, nq6])
  refine wpX_callF rfl rfl rfl en36_rt rfl (fun x => mulA x ‹_› ‹_›) ?_; rintro xw e wy ⟨z, hz, rfl, hb⟩; refine ⟨_, rfl, hb, ?_⟩; (try simp only [Act.put, nq1, nq2, nq3, nq4, nq5, nq6])
  refine wpX_callF rfl rfl rfl en67_rt rfl (fun x => squareA x ‹_›) ?_; rintro xw e wy ⟨z, hz, rfl, hb⟩; refine ⟨_, rfl, hb, ?_⟩; (try simp only [Act.put, nq1, nq2, nq3, nq4, nq5, nq6])
  refine wpX_callF rfl rfl rfl en36_rt rfl (fun x => mulA x ‹_› ‹_›) ?_; rintro xw e wy ⟨z, hz, rfl, hb⟩; refine ⟨_, rfl, hb, ?_⟩; (try simp only [Act.put, nq1, nq2, nq3, nq4, nq5, nq6])
  refine wpX_callF rfl rfl rfl en36_rt rfl (fun x => mulA x ‹_› ‹_›) ?_; rintro xw e wy ⟨z, hz, rfl, hb⟩; refine ⟨_, rfl, hb, ?_⟩; (try simp only [Act.put, nq1, nq2, nq3, nq4, nq5, nq6])
  refine wpX_callF rfl rfl rfl en61_rt rfl (fun x => powA1 x (by assumption)) ?_; rintro xw e wy ⟨z, hz, rfl, hb⟩; refine ⟨_, rfl, hb, ?_⟩; (try simp only [Act.put, nq1, nq2, nq3, nq4, nq5, nq6])
  refine wpX_callF rfl rfl rfl en36_rt rfl (fun x => mulA x ‹_› ‹_›) ?_; rintro xw e wy ⟨z, hz, rfl, hb⟩; refine ⟨_, rfl, hb, ?_⟩; (try simp only [Act.put, nq1, nq2, nq3, nq4, nq5, nq6])
  refine wpX_nil ?_; intro G xz hx0 hx hF; have hS9 := HS.out.floats hx0 hF _ (by decide) (fun _ h => h); simp only [List.map_cons, List.map_nil, List.cons_append, List.nil_append] at hS9; have HS := hide hS9; have HX := hide hx0; have HG := hide hF.at_; clear hS9 hF hx0 hx; simp only [putsE, List.foldl_cons, List.foldl_nil]; (try simp only [Act.put, nq1, nq2, nq3, nq4, nq5, nq6])
  refine wpS_storeF rfl rfl rfl rfl rfl HS.out HX.out (HG.out 11 (by simp)).1 rowE (.head) (by first | exact EA.arr ‹_› | exact arr_zE) (by first | exact EA.arr ‹_› | exact arr_zE) ?_; intro wz hS9 hX9; have HS := hide hS9; have HX := hide hX9; clear hS9 hX9; (try simp only [Act.put, nq1, nq2, nq3, nq4, nq5, nq6])
  refine wpS_nil ?_
  go_wp2_with fail
  have HS := hide HS.out.drew
  refine wp_region_XE [(4, 8)] [(0, 0), (2, 0), (1, 2), (3, 2)] (.op 5 2 (.nil)) zE 34 (by kernel_rfl) (by kernel_rfl) (by kernel_rfl) (by intro p hp; simp only [List.mem_cons, List.not_mem_nil, or_false] at hp; subst hp <;> exact flOp_of rfl rfl rfl (fun ev x => run_allocR rfl newE ev x)) (fun _ _ _ _ h => h) ?_
  refine wpX_loadP rfl rfl rfl rfl HS.out (.head _) rowE (.all (by first | exact EA.arr ‹_› | exact arr_zE)) ?_; (try simp only [Act.put, nq1, nq2, nq3, nq4, nq5, nq6])
  refine wpX_loadP rfl rfl rfl rfl HS.out (.tail _ (.tail _ (.tail _ (.head _)))) rowE (.all (by first | exact EA.arr ‹_› | exact arr_zE)) ?_; (try simp only [Act.put, nq1, nq2, nq3, nq4, nq5, nq6])
  refine wpX_callF rfl rfl rfl en67_rt rfl (fun x => squareA x ‹_›) ?_; rintro xw e wy ⟨z, hz, rfl, hb⟩; refine ⟨_, rfl, hb, ?_⟩; (try simp only [Act.put, nq1, nq2, nq3, nq4, nq5, nq6])
  refine wpX_callF rfl rfl rfl en36_rt rfl (fun x => mulA x ‹_› ‹_›) ?_; rintro xw e wy ⟨z, hz, rfl, hb⟩; refine ⟨_, rfl, hb, ?_⟩; (try simp only [Act.put, nq1, nq2, nq3, nq4, nq5, nq6])
  refine wpX_nil ?_; intro G xz hx0 hx hF; have hS9 := HS.out.floats hx0 hF _ (by decide) (fun _ h => h); simp only [List.map_cons, List.map_nil, List.cons_append, List.nil_append] at hS9; have HS := hide hS9; have HX := hide hx0; have HG := hide hF.at_; clear hS9 hF hx0 hx; simp only [putsE, List.foldl_cons, List.foldl_nil]; (try simp only [Act.put, nq1, nq2, nq3, nq4, nq5, nq6])
  refine wpS_storeF rfl rfl rfl rfl rfl HS.out HX.out (HG.out 4 (by simp)).1 rowE (.head) (by first | exact EA.arr ‹_› | exact arr_zE) (by first | exact EA.arr ‹_› | exact arr_zE) ?_; intro wz hS9 hX9; have HS := hide hS9; have HX := hide hX9; clear hS9 hX9; (try simp only [Act.put, nq1, nq2, nq3, nq4, nq5, nq6])
  refine wpS_nil ?_
  have hX := ‹EA _ (U * (V * V * V) * fpow (U * (V * V * V * (V * V * V)) * V) (2 ^ 252 - 3))›
  have hG := ‹EA _ (U * (V * V * V) * fpow (U * (V * V * V * (V * V * V)) * V) (2 ^ 252 - 3) * (U * (V * V * V) * fpow (U * (V * V * V * (V * V * V)) * V) (2 ^ 252 - 3)) * V)›
  change EA _ (rtX U V) at hX
  change EA _ (rtX U V * rtX U V * V) at hG
  by_cases c1 : rtX U V * rtX U V * V = U
  · have hF : rtF U V = some (evn (rtX U V)) := by unfold rtF; rw [if_pos c1]
    have HSM := hide (fun W => sameA W hG hu)
    rw [decide_eq_true c1] at HSM
    clear c1
    have HOD := hide (fun W => oddA W hX)
    by_cases ho : (rtX U V).val % 2 = 1
    · have hev : evn (rtX U V) = -(rtX U V) := by unfold evn; rw [if_pos ho]
      rw [hev] at hF
      rw [decide_eq_true ho] at HOD
      have HF := hide hF
      clear hF hev ho
      go_wp2_with (first | (go_at_call 61; (with_reducible refine (HSM.out _).mono ?_); rintro e wy ⟨rfl, hb⟩; have HS := hide (HS.out.call hb)) | (go_at_call 35; (with_reducible refine (HOD.out _).mono ?_); rintro e wy ⟨rfl, hb⟩; have HS := hide (HS.out.call hb)) | (go_at_call 46; (with_reducible refine (negA _ hX).mono ?_); rintro e wy ⟨zn, hzn, rfl, hb⟩; have HS := hide (HS.out.call hb)) | (refine wl_loadP rfl rfl rfl HS.out (.head _) rowE (.all (by first | exact EA.arr ‹_› | exact arr_zE)) ?_; (try simp only [Act.put, nq1, nq2, nq3, nq4, nq5, nq6])) | (refine wl_loadP rfl rfl rfl HS.out (.tail _ (.tail _ (.tail _ (.tail _ (.tail _ (.head _)))))) rowE (.all (by first | exact EA.arr ‹_› | exact arr_zE)) ?_; (try simp only [Act.put, nq1, nq2, nq3, nq4, nq5, nq6])) | (refine wl_storeR rfl rfl rfl rfl HS.out rowE (.tail (.tail (.tail (.head)))) (by first | exact EA.arr ‹_› | exact arr_zE) (by first | exact EA.arr ‹_› | exact arr_zE) ?_; intro wz hS9; have HS := hide hS9; clear hS9; (try simp only [Act.put, nq1, nq2, nq3, nq4, nq5, nq6])) | (refine wl_loadP rfl rfl rfl HS.out (.tail _ (.head _)) rowE (.all (by first | exact EA.arr ‹_› | exact arr_zE)) ?_; (try simp only [Act.put, nq1, nq2, nq3, nq4, nq5, nq6])) | (refine wl_storeR rfl rfl rfl rfl HS.out rowE (.tail (.head)) (by first | exact EA.arr ‹_› | exact arr_zE) (by first | exact EA.arr ‹_› | exact arr_zE) ?_; intro wz hS9; have HS := hide hS9; clear hS9; (try simp only [Act.put, nq1, nq2, nq3, nq4, nq5, nq6])))
      refine bodyPost_ret (results_cell_tmp_row rfl _ _ _ _ _ _ _ rfl (HS.out.heapM (by (repeat first | exact .head _ | apply List.Mem.tail))) Tryd.underlying34 rfl (by first | (rw [(EA.arr ‹_›).size]; kernel_rfl) | (rw [(NA.arr ‹_›).size]; kernel_rfl) | (rw [(qE ‹_› ‹_› ‹_› ‹_›).size]; kernel_rfl) | (rw [(qN ‹_› ‹_› ‹_› ‹_›).size]; kernel_rfl) | (rw [(PtN.arr ‹_›).size]; kernel_rfl) | (rw [(PtV.arr ‹_›).size]; kernel_rfl) | (rw [(QtN.arr ‹_›).size]; kernel_rfl))) rfl ?_
      rw [HF.out]
      exact ⟨_, hzn, rfl, HS.out.below⟩
    · have hev : evn (rtX U V) = rtX U V := by unfold evn; rw [if_neg ho]
      rw [hev] at hF
      rw [decide_eq_false ho] at HOD
      have HF := hide hF
      clear hF hev ho
      go_wp2_with (first | (go_at_call 61; (with_reducible refine (HSM.out _).mono ?_); rintro e wy ⟨rfl, hb⟩; have HS := hide (HS.out.call hb)) | (go_at_call 35; (with_reducible refine (HOD.out _).mono ?_); rintro e wy ⟨rfl, hb⟩; have HS := hide (HS.out.call hb)) | (refine wl_loadP rfl rfl rfl HS.out (.head _) rowE (.all (by first | exact EA.arr ‹_› | exact arr_zE)) ?_; (try simp only [Act.put, nq1, nq2, nq3, nq4, nq5, nq6])) | (refine wl_loadP rfl rfl rfl HS.out (.tail _ (.tail _ (.tail _ (.tail _ (.tail _ (.head _)))))) rowE (.all (by first | exact EA.arr ‹_› | exact arr_zE)) ?_; (try simp only [Act.put, nq1, nq2, nq3, nq4, nq5, nq6])) | (refine wl_storeR rfl rfl rfl rfl HS.out rowE (.tail (.tail (.tail (.head)))) (by first | exact EA.arr ‹_› | exact arr_zE) (by first | exact EA.arr ‹_› | exact arr_zE) ?_; intro wz hS9; have HS := hide hS9; clear hS9; (try simp only [Act.put, nq1, nq2, nq3, nq4, nq5, nq6])) | (refine wl_loadP rfl rfl rfl HS.out (.tail _ (.head _)) rowE (.all (by first | exact EA.arr ‹_› | exact arr_zE)) ?_; (try simp only [Act.put, nq1, nq2, nq3, nq4, nq5, nq6])) | (refine wl_storeR rfl rfl rfl rfl HS.out rowE (.tail (.head)) (by first | exact EA.arr ‹_› | exact arr_zE) (by first | exact EA.arr ‹_› | exact arr_zE) ?_; intro wz hS9; have HS := hide hS9; clear hS9; (try simp only [Act.put, nq1, nq2, nq3, nq4, nq5, nq6])))
      refine bodyPost_ret (results_cell_tmp_row rfl _ _ _ _ _ _ _ rfl (HS.out.heapM (by (repeat first | exact .head _ | apply List.Mem.tail))) Tryd.underlying34 rfl (by first | (rw [(EA.arr ‹_›).size]; kernel_rfl) | (rw [(NA.arr ‹_›).size]; kernel_rfl) | (rw [(qE ‹_› ‹_› ‹_› ‹_›).size]; kernel_rfl) | (rw [(qN ‹_› ‹_› ‹_› ‹_›).size]; kernel_rfl) | (rw [(PtN.arr ‹_›).size]; kernel_rfl) | (rw [(PtV.arr ‹_›).size]; kernel_rfl) | (rw [(QtN.arr ‹_›).size]; kernel_rfl))) rfl ?_
      rw [HF.out]
      exact ⟨_, hX, rfl, HS.out.below⟩
  · by_cases c2 : rtX U V * rtX U V * V = -U
    · have hF : rtF U V = some (evn (rtX U V * iF)) := by unfold rtF; rw [if_neg c1, if_pos c2]
      have HSM := hide (fun W => sameA W hG hu)
      rw [decide_eq_false c1] at HSM
      have HC2 := hide c2
      clear c1 c2
      go_wp2_with (first | (go_at_call 61; (with_reducible refine (HSM.out _).mono ?_); rintro e wy ⟨rfl, hb⟩; have HS := hide (HS.out.call hb)) | (refine wl_loadP rfl rfl rfl HS.out (.head _) rowE (.all (by first | exact EA.arr ‹_› | exact arr_zE)) ?_; (try simp only [Act.put, nq1, nq2, nq3, nq4, nq5, nq6])) | (refine wl_loadP rfl rfl rfl HS.out (.tail _ (.tail _ (.tail _ (.tail _ (.tail _ (.head _)))))) rowE (.all (by first | exact EA.arr ‹_› | exact arr_zE)) ?_; (try simp only [Act.put, nq1, nq2, nq3, nq4, nq5, nq6])) | (refine wl_storeR rfl rfl rfl rfl HS.out rowE (.tail (.tail (.tail (.head)))) (by first | exact EA.arr ‹_› | exact arr_zE) (by first | exact EA.arr ‹_› | exact arr_zE) ?_; intro wz hS9; have HS := hide hS9; clear hS9; (try simp only [Act.put, nq1, nq2, nq3, nq4, nq5, nq6])) | (refine wl_loadP rfl rfl rfl HS.out (.tail _ (.head _)) rowE (.all (by first | exact EA.arr ‹_› | exact arr_zE)) ?_; (try simp only [Act.put, nq1, nq2, nq3, nq4, nq5, nq6])) | (refine wl_storeR rfl rfl rfl rfl HS.out rowE (.tail (.head)) (by first | exact EA.arr ‹_› | exact arr_zE) (by first | exact EA.arr ‹_› | exact arr_zE) ?_; intro wz hS9; have HS := hide hS9; clear hS9; (try simp only [Act.put, nq1, nq2, nq3, nq4, nq5, nq6])))
      have HS := hide HS.out.drew
      refine wp_region_T [(0, 0), (1, 0), (2, 2), (3, 2), (4, 1)] (by kernel_rfl) (by kernel_rfl) (fun _ _ _ _ h => h) ?_
      refine wpT_loadP rfl rfl rfl rfl HS.out (.head _) rowE (.all (by first | exact EA.arr ‹_› | exact arr_zE)) ?_; (try simp only [Act.put, nq1, nq2, nq3, nq4, nq5, nq6])
      refine wpT_loadP rfl rfl rfl rfl HS.out (.tail _ (.tail _ (.tail _ (.tail _ (.tail _ (.head _)))))) rowE (.all (by first | exact EA.arr ‹_› | exact arr_zE)) ?_; (try simp only [Act.put, nq1, nq2, nq3, nq4, nq5, nq6])
      refine wpT_callF rfl rfl rfl en45_rt rfl (negA _ ‹_›) ?_; rintro e wy ⟨z, hz, rfl, hb⟩; refine ⟨_, rfl, hb, ?_⟩; have HS := hide (HS.out.call hb); (try simp only [Act.put, nq1, nq2, nq3, nq4, nq5, nq6])
      refine wpT_callF rfl rfl rfl en68_rt rfl (sameA _ ‹_› ‹_›) ?_; rintro e wy ⟨rfl, hb⟩; refine ⟨_, rfl, hb, ?_⟩; have HS := hide (HS.out.call hb); (try simp only [Act.put, nq1, nq2, nq3, nq4, nq5, nq6])
      (refine wpT_pure (v := ?_) rfl rfl ?_ ?_; rotate_left; (intro wx; go_simp; try go_bits) <;> (with_reducible rfl)); (try simp only [Act.put, nq1, nq2, nq3, nq4, nq5, nq6])
      refine wpT_nil ?_
      rw [decide_eq_true HC2.out]
      go_wp2_with fail
      have HS := hide HS.out.drew
      refine wp_region_T [(0, 0), (1, 2), (2, 2), (3, 2), (4, 3)] (by kernel_rfl) (by kernel_rfl) (fun _ _ _ _ h => h) ?_
      refine wpT_loadP rfl rfl rfl rfl HS.out (.tail _ (.head _)) rowE (.all (by first | exact EA.arr ‹_› | exact arr_zE)) ?_; (try simp only [Act.put, nq1, nq2, nq3, nq4, nq5, nq6])
      refine wpT_callF rfl rfl rfl en48_rt rfl (small2A _) ?_; rintro e wy ⟨z, hz, rfl, hb⟩; refine ⟨_, rfl, hb, ?_⟩; have HS := hide (HS.out.call hb); (try simp only [Act.put, nq1, nq2, nq3, nq4, nq5, nq6])
      refine wpT_callF rfl rfl rfl en61_rt rfl (powA2 _ (by assumption)) ?_; rintro e wy ⟨z, hz, rfl, hb⟩; refine ⟨_, rfl, hb, ?_⟩; have HS := hide (HS.out.call hb); (try simp only [Act.put, nq1, nq2, nq3, nq4, nq5, nq6])
      refine wpT_callF rfl rfl rfl en36_rt rfl (mulA _ ‹_› ‹_›) ?_; rintro e wy ⟨z, hz, rfl, hb⟩; refine ⟨_, rfl, hb, ?_⟩; have HS := hide (HS.out.call hb); (try simp only [Act.put, nq1, nq2, nq3, nq4, nq5, nq6])
      refine wpT_late rfl rfl ?_; intro K hK; refine wp_storeR rfl rfl rfl HS.out rowE (.tail (.head)) (by first | exact EA.arr ‹_› | exact arr_zE) (by first | exact EA.arr ‹_› | exact arr_zE) ?_; intro wz hS9; have HS := hide hS9; clear hS9; refine hK _ _ ?_; (try simp only [Act.put, nq1, nq2, nq3, nq4, nq5, nq6])
      refine wpT_nil ?_
      have hXI := ‹EA _ (rtX U V * fpow (toF 2) (2 ^ 253 - 5))›
      rw [two_root] at hXI
      have HOD := hide (fun W => oddA W hXI)
      by_cases ho : (rtX U V * iF).val % 2 = 1
      · have hev : evn (rtX U V * iF) = -(rtX U V * iF) := by unfold evn; rw [if_pos ho]
        rw [hev] at hF
        rw [decide_eq_true ho] at HOD
        have HF := hide hF
        clear hF hev ho
        go_wp2_with (first | (go_at_call 35; (with_reducible refine (HOD.out _).mono ?_); rintro e wy ⟨rfl, hb⟩; have HS := hide (HS.out.call hb)) | (go_at_call 46; (with_reducible refine (negA _ hXI).mono ?_); rintro e wy ⟨zn, hzn, rfl, hb⟩; have HS := hide (HS.out.call hb)) | (refine wl_loadP rfl rfl rfl HS.out (.head _) rowE (.all (by first | exact EA.arr ‹_› | exact arr_zE)) ?_; (try simp only [Act.put, nq1, nq2, nq3, nq4, nq5, nq6])) | (refine wl_loadP rfl rfl rfl HS.out (.tail _ (.tail _ (.tail _ (.tail _ (.tail _ (.head _)))))) rowE (.all (by first | exact EA.arr ‹_› | exact arr_zE)) ?_; (try simp only [Act.put, nq1, nq2, nq3, nq4, nq5, nq6])) | (refine wl_storeR rfl rfl rfl rfl HS.out rowE (.tail (.tail (.tail (.head)))) (by first | exact EA.arr ‹_› | exact arr_zE) (by first | exact EA.arr ‹_› | exact arr_zE) ?_; intro wz hS9; have HS := hide hS9; clear hS9; (try simp only [Act.put, nq1, nq2, nq3, nq4, nq5, nq6])) | (refine wl_loadP rfl rfl rfl HS.out (.tail _ (.head _)) rowE (.all (by first | exact EA.arr ‹_› | exact arr_zE)) ?_; (try simp only [Act.put, nq1, nq2, nq3, nq4, nq5, nq6])) | (refine wl_storeR rfl rfl rfl rfl HS.out rowE (.tail (.head)) (by first | exact EA.arr ‹_› | exact arr_zE) (by first | exact EA.arr ‹_› | exact arr_zE) ?_; intro wz hS9; have HS := hide hS9; clear hS9; (try simp only [Act.put, nq1, nq2, nq3, nq4, nq5, nq6])))
        refine bodyPost_ret (results_cell_tmp_row rfl _ _ _ _ _ _ _ rfl (HS.out.heapM (by (repeat first | exact .head _ | apply List.Mem.tail))) Tryd.underlying34 rfl (by first | (rw [(EA.arr ‹_›).size]; kernel_rfl) | (rw [(NA.arr ‹_›).size]; kernel_rfl) | (rw [(qE ‹_› ‹_› ‹_› ‹_›).size]; kernel_rfl) | (rw [(qN ‹_› ‹_› ‹_› ‹_›).size]; kernel_rfl) | (rw [(PtN.arr ‹_›).size]; kernel_rfl) | (rw [(PtV.arr ‹_›).size]; kernel_rfl) | (rw [(QtN.arr ‹_›).size]; kernel_rfl))) rfl ?_
        rw [HF.out]
        exact ⟨_, hzn, rfl, HS.out.below⟩
      · have hev : evn (rtX U V * iF) = rtX U V * iF := by unfold evn; rw [if_neg ho]
        rw [hev] at hF
        rw [decide_eq_false ho] at HOD
        have HF := hide hF
        clear hF hev ho
        go_wp2_with (first | (go_at_call 35; (with_reducible refine (HOD.out _).mono ?_); rintro e wy ⟨rfl, hb⟩; have HS := hide (HS.out.call hb)) | (refine wl_loadP rfl rfl rfl HS.out (.head _) rowE (.all (by first | exact EA.arr ‹_› | exact arr_zE)) ?_; (try simp only [Act.put, nq1, nq2, nq3, nq4, nq5, nq6])) | (refine wl_loadP rfl rfl rfl HS.out (.tail _ (.tail _ (.tail _ (.tail _ (.tail _ (.head _)))))) rowE (.all (by first | exact EA.arr ‹_› | exact arr_zE)) ?_; (try simp only [Act.put, nq1, nq2, nq3, nq4, nq5, nq6])) | (refine wl_storeR rfl rfl rfl rfl HS.out rowE (.tail (.tail (.tail (.head)))) (by first | exact EA.arr ‹_› | exact arr_zE) (by first | exact EA.arr ‹_› | exact arr_zE) ?_; intro wz hS9; have HS := hide hS9; clear hS9; (try simp only [Act.put, nq1, nq2, nq3, nq4, nq5, nq6])) | (refine wl_loadP rfl rfl rfl HS.out (.tail _ (.head _)) rowE (.all (by first | exact EA.arr ‹_› | exact arr_zE)) ?_; (try simp only [Act.put, nq1, nq2, nq3, nq4, nq5, nq6])) | (refine wl_storeR rfl rfl rfl rfl HS.out rowE (.tail (.head)) (by first | exact EA.arr ‹_› | exact arr_zE) (by first | exact EA.arr ‹_› | exact arr_zE) ?_; intro wz hS9; have HS := hide hS9; clear hS9; (try simp only [Act.put, nq1, nq2, nq3, nq4, nq5, nq6])))
        refine bodyPost_ret (results_cell_tmp_row rfl _ _ _ _ _ _ _ rfl (HS.out.heapM (by (repeat first | exact .head _ | apply List.Mem.tail))) Tryd.underlying34 rfl (by first | (rw [(EA.arr ‹_›).size]; kernel_rfl) | (rw [(NA.arr ‹_›).size]; kernel_rfl) | (rw [(qE ‹_› ‹_› ‹_› ‹_›).size]; kernel_rfl) | (rw [(qN ‹_› ‹_› ‹_› ‹_›).size]; kernel_rfl) | (rw [(PtN.arr ‹_›).size]; kernel_rfl) | (rw [(PtV.arr ‹_›).size]; kernel_rfl) | (rw [(QtN.arr ‹_›).size]; kernel_rfl))) rfl ?_
        rw [HF.out]
        exact ⟨_, hXI, rfl, HS.out.below⟩
    · have hF : rtF U V = none := by unfold rtF; rw [if_neg c1, if_neg c2]
      have HSM := hide (fun W => sameA W hG hu)
      rw [decide_eq_false c1] at HSM
      have HC2 := hide c2
      have HF := hide hF
      clear c1 c2 hF
      have hz0 := ea_zero
      go_wp2_with (first | (go_at_call 61; (with_reducible refine (HSM.out _).mono ?_); rintro e wy ⟨rfl, hb⟩; have HS := hide (HS.out.call hb)) | (refine wl_loadP rfl rfl rfl HS.out (.head _) rowE (.all (by first | exact EA.arr ‹_› | exact arr_zE)) ?_; (try simp only [Act.put, nq1, nq2, nq3, nq4, nq5, nq6])) | (refine wl_loadP rfl rfl rfl HS.out (.tail _ (.tail _ (.tail _ (.tail _ (.tail _ (.head _)))))) rowE (.all (by first | exact EA.arr ‹_› | exact arr_zE)) ?_; (try simp only [Act.put, nq1, nq2, nq3, nq4, nq5, nq6])) | (refine wl_storeR rfl rfl rfl rfl HS.out rowE (.tail (.tail (.tail (.head)))) (by first | exact EA.arr ‹_› | exact arr_zE) (by first | exact EA.arr ‹_› | exact arr_zE) ?_; intro wz hS9; have HS := hide hS9; clear hS9; (try simp only [Act.put, nq1, nq2, nq3, nq4, nq5, nq6])) | (refine wl_loadP rfl rfl rfl HS.out (.tail _ (.head _)) rowE (.all (by first | exact EA.arr ‹_› | exact arr_zE)) ?_; (try simp only [Act.put, nq1, nq2, nq3, nq4, nq5, nq6])) | (refine wl_storeR rfl rfl rfl rfl HS.out rowE (.tail (.head)) (by first | exact EA.arr ‹_› | exact arr_zE) (by first | exact EA.arr ‹_› | exact arr_zE) ?_; intro wz hS9; have HS := hide hS9; clear hS9; (try simp only [Act.put, nq1, nq2, nq3, nq4, nq5, nq6])))
      have HS := hide HS.out.drew
      refine wp_region_T [(0, 0), (1, 0), (2, 2), (3, 2), (4, 1)] (by kernel_rfl) (by kernel_rfl) (fun _ _ _ _ h => h) ?_
      refine wpT_loadP rfl rfl rfl rfl HS.out (.head _) rowE (.all (by first | exact EA.arr ‹_› | exact arr_zE)) ?_; (try simp only [Act.put, nq1, nq2, nq3, nq4, nq5, nq6])
      refine wpT_loadP rfl rfl rfl rfl HS.out (.tail _ (.tail _ (.tail _ (.tail _ (.tail _ (.head _)))))) rowE (.all (by first | exact EA.arr ‹_› | exact arr_zE)) ?_; (try simp only [Act.put, nq1, nq2, nq3, nq4, nq5, nq6])
      refine wpT_callF rfl rfl rfl en45_rt rfl (negA _ ‹_›) ?_; rintro e wy ⟨z, hz, rfl, hb⟩; refine ⟨_, rfl, hb, ?_⟩; have HS := hide (HS.out.call hb); (try simp only [Act.put, nq1, nq2, nq3, nq4, nq5, nq6])
      refine wpT_callF rfl rfl rfl en68_rt rfl (sameA _ ‹_› ‹_›) ?_; rintro e wy ⟨rfl, hb⟩; refine ⟨_, rfl, hb, ?_⟩; have HS := hide (HS.out.call hb); (try simp only [Act.put, nq1, nq2, nq3, nq4, nq5, nq6])
      (refine wpT_pure (v := ?_) rfl rfl ?_ ?_; rotate_left; (intro wx; go_simp; try go_bits) <;> (with_reducible rfl)); (try simp only [Act.put, nq1, nq2, nq3, nq4, nq5, nq6])
      refine wpT_nil ?_
      rw [decide_eq_false HC2.out]
      go_wp2_with (first | (refine wl_loadP rfl rfl rfl HS.out (.head _) rowE (.all (by first | exact EA.arr ‹_› | exact arr_zE)) ?_; (try simp only [Act.put, nq1, nq2, nq3, nq4, nq5, nq6])) | (refine wl_loadP rfl rfl rfl HS.out (.tail _ (.tail _ (.tail _ (.tail _ (.tail _ (.head _)))))) rowE (.all (by first | exact EA.arr ‹_› | exact arr_zE)) ?_; (try simp only [Act.put, nq1, nq2, nq3, nq4, nq5, nq6])) | (refine wl_storeR rfl rfl rfl rfl HS.out rowE (.tail (.tail (.tail (.head)))) (by first | exact EA.arr ‹_› | exact arr_zE) (by first | exact EA.arr ‹_› | exact arr_zE) ?_; intro wz hS9; have HS := hide hS9; clear hS9; (try simp only [Act.put, nq1, nq2, nq3, nq4, nq5, nq6])) | (refine wl_loadP rfl rfl rfl HS.out (.tail _ (.head _)) rowE (.all (by first | exact EA.arr ‹_› | exact arr_zE)) ?_; (try simp only [Act.put, nq1, nq2, nq3, nq4, nq5, nq6])) | (refine wl_storeR rfl rfl rfl rfl HS.out rowE (.tail (.head)) (by first | exact EA.arr ‹_› | exact arr_zE) (by first | exact EA.arr ‹_› | exact arr_zE) ?_; intro wz hS9; have HS := hide hS9; clear hS9; (try simp only [Act.put, nq1, nq2, nq3, nq4, nq5, nq6])))
      refine bodyPost_ret (results_cell_tmp_row rfl _ _ _ _ _ _ _ rfl (HS.out.heapM (by (repeat first | exact .head _ | apply List.Mem.tail))) Tryd.underlying34 rfl (by first | (rw [(EA.arr ‹_›).size]; kernel_rfl) | (rw [(NA.arr ‹_›).size]; kernel_rfl) | (rw [(qE ‹_› ‹_› ‹_› ‹_›).size]; kernel_rfl) | (rw [(qN ‹_› ‹_› ‹_› ‹_›).size]; kernel_rfl) | (rw [(PtN.arr ‹_›).size]; kernel_rfl) | (rw [(PtV.arr ‹_›).size]; kernel_rfl) | (rw [(QtN.arr ‹_›).size]; kernel_rfl))) rfl ?_
      rw [HF.out]
      exact ⟨_, hz0, rfl, HS.out.below⟩
end Go.Proofs.YtkelegjppnfoaaaDoor

/-
  Layer 4: the code's sum of two points.
-/
namespace Go.Proofs.YtkelegjppnfoaaaDoor
open Go.RowKit
set_option linter.unusedSimpArgs false

theorem en36_pl (args : Array Value) (w : World) : (callFunc 33 args).run Tryd.prog w = .ok (.enter 33 args) w := by kernel_rfl
theorem en52_pl (args : Array Value) (w : World) : (callFunc 43 args).run Tryd.prog w = .ok (.enter 43 args) w := by kernel_rfl
theorem en53_pl (args : Array Value) (w : World) : (callFunc 45 args).run Tryd.prog w = .ok (.enter 45 args) w := by kernel_rfl
set_option maxRecDepth 100000 in
set_option maxHeartbeats 6400000 in
theorem plus_any {a b c d a' b' c' d' k : Array Value} {X Y Z T X' Y' Z' T' : FK} (w : World) (h1 : EA a X) (h2 : EA b Y) (h3 : EA c Z) (h4 : EA d T) (g1 : EA a' X') (g2 : EA b' Y') (g3 : EA c' Z') (g4 : EA d' T') (hk : EA k dF) :
    Calls Tryd.prog 30 #[.agg (quad a b c d), .agg (quad a' b' c' d'), .agg k] w (ResP w (plJ ⟨X, Y, Z, T⟩ ⟨X', Y', Z', T'⟩)) := by
  have HS := hide (St.init w NoB)
  go_enter Tryd.func30, Tryd.ntmps30
  go_wp2_with (first | (refine wl_loadP rfl rfl rfl HS.out (by (repeat first | exact .head _ | apply List.Mem.tail)) (by first | exact rowE | exact rowP | exact rowN | exact rowQ) (by (first | exact .q0 (EA.arr ‹_›) | exact .q1 (EA.arr ‹_›) (EA.arr ‹_›) | exact .q2 (EA.arr ‹_›) (EA.arr ‹_›) (EA.arr ‹_›) | exact .q3 (EA.arr ‹_›) (EA.arr ‹_›) (EA.arr ‹_›) (EA.arr ‹_›) | exact .q0 (NA.arr ‹_›) | exact .q1 (NA.arr ‹_›) (NA.arr ‹_›) | exact .q2 (NA.arr ‹_›) (NA.arr ‹_›) (NA.arr ‹_›) | exact .q3 (NA.arr ‹_›) (NA.arr ‹_›) (NA.arr ‹_›) (NA.arr ‹_›) | exact .all (by (first | exact EA.arr ‹_› | exact NA.arr ‹_› | exact arr_zE | exact arr_zN | exact arr_zP | exact arr_zQ | exact PtN.arr ‹_› | exact PtV.arr ‹_› | exact QtN.arr ‹_› | exact qE ‹_› ‹_› ‹_› ‹_› | exact qN ‹_› ‹_› ‹_› ‹_›)))) ?_; (try simp only [Act.put, nq1, nq2, nq3, nq4, nq5, nq6])) | (refine wl_storeR rfl rfl rfl rfl HS.out (by first | exact rowE | exact rowP | exact rowN | exact rowQ) (by (repeat first | exact .head | apply Upd.tail)) (by (first | exact EA.arr ‹_› | exact NA.arr ‹_› | exact arr_zE | exact arr_zN | exact arr_zP | exact arr_zQ | exact PtN.arr ‹_› | exact PtV.arr ‹_› | exact QtN.arr ‹_› | exact qE ‹_› ‹_› ‹_› ‹_› | exact qN ‹_› ‹_› ‹_› ‹_›)) (by (first | exact EA.arr ‹_› | exact NA.arr ‹_› | exact arr_zE | exact arr_zN | exact arr_zP | exact arr_zQ | exact PtN.arr ‹_› | exact PtV.arr ‹_› | exact QtN.arr ‹_› | exact qE ‹_› ‹_› ‹_› ‹_› | exact qN ‹_› ‹_› ‹_› ‹_›)) ?_; intro wz hS9; have HS := hide hS9; clear hS9; (try simp only [Act.put, nq1, nq2, nq3, nq4, nq5, nq6])) | (refine wl_allocR rfl rfl HS.out (by first | exact newE | exact newP | exact newN | exact newQ) ?_; intro gz wz hS9; have HS := hide hS9; clear hS9; (try simp only [Act.put, nq1, nq2, nq3, nq4, nq5, nq6])) | (refine wl_boxR rfl rfl rfl HS.out ?_; intro gz wz hS9; have HS := hide hS9; clear hS9; (try simp only [Act.put, nq1, nq2, nq3, nq4, nq5, nq6])))
  have HS := hide HS.out.drew
  refine wp_region_XE [(11, 7)] [(0, 1), (1, 0), (2, 1), (3, 0), (5, 1), (6, 0), (7, 1), (8, 0), (4, 2), (9, 2), (10, 2)] (.op 12 2 (.nil)) zE 34 (by kernel_rfl) (by kernel_rfl) (by kernel_rfl) (by intro p hp; simp only [List.mem_cons, List.not_mem_nil, or_false] at hp; subst hp <;> exact flOp_of rfl rfl rfl (fun ev x => run_allocR rfl newE ev x)) (fun _ _ _ _ h => h) ?_
  (refine wpX_pure (v := ?_) rfl rfl ?_ ?_; rotate_left; (intro wx; go_simp; try go_bits) <;> (with_reducible rfl)); (try simp only [Act.put, nq1, nq2, nq3, nq4, nq5, nq6])
  refine wpX_loadP rfl rfl rfl rfl HS.out (.tail _ (.tail _ (.tail _ (.head _)))) rowE (.q1 (EA.arr ‹_›) (EA.arr ‹_›)) ?_; (try simp only [Act.put, nq1, nq2, nq3, nq4, nq5, nq6])
  (refine wpX_pure (v := ?_) rfl rfl ?_ ?_; rotate_left; (intro wx; go_simp; try go_bits) <;> (with_reducible rfl)); (try simp only [Act.put, nq1, nq2, nq3, nq4, nq5, nq6])
  refine wpX_loadP rfl rfl rfl rfl HS.out (.tail _ (.tail _ (.tail _ (.head _)))) rowE (.q0 (EA.arr ‹_›)) ?_; (try simp only [Act.put, nq1, nq2, nq3, nq4, nq5, nq6])
  (refine wpX_pure (v := ?_) rfl rfl ?_ ?_; rotate_left; (intro wx; go_simp; try go_bits) <;> (with_reducible rfl)); (try simp only [Act.put, nq1, nq2, nq3, nq4, nq5, nq6])
  refine wpX_loadP rfl rfl rfl rfl HS.out (.tail _ (.tail _ (.head _))) rowE (.q1 (EA.arr ‹_›) (EA.arr ‹_›)) ?_; (try simp only [Act.put, nq1, nq2, nq3, nq4, nq5, nq6])
  (refine wpX_pure (v := ?_) rfl rfl ?_ ?_; rotate_left; (intro wx; go_simp; try go_bits) <;> (with_reducible rfl)); (try simp only [Act.put, nq1, nq2, nq3, nq4, nq5, nq6])
  refine wpX_loadP rfl rfl rfl rfl HS.out (.tail _ (.tail _ (.head _))) rowE (.q0 (EA.arr ‹_›)) ?_; (try simp only [Act.put, nq1, nq2, nq3, nq4, nq5, nq6])
  refine wpX_callF rfl rfl rfl en52_pl rfl (fun x => subA x ‹_› ‹_›) ?_; rintro xw e wy ⟨z, hz, rfl, hb⟩; refine ⟨_, rfl, hb, ?_⟩; (try simp only [Act.put, nq1, nq2, nq3, nq4, nq5, nq6])
  refine wpX_callF rfl rfl rfl en52_pl rfl (fun x => subA x ‹_› ‹_›) ?_; rintro xw e wy ⟨z, hz, rfl, hb⟩; refine ⟨_, rfl, hb, ?_⟩; (try simp only [Act.put, nq1, nq2, nq3, nq4, nq5, nq6])
  refine wpX_callF rfl rfl rfl en36_pl rfl (fun x => mulA x ‹_› ‹_›) ?_; rintro xw e wy ⟨z, hz, rfl, hb⟩; refine ⟨_, rfl, hb, ?_⟩; (try simp only [Act.put, nq1, nq2, nq3, nq4, nq5, nq6])
  refine wpX_nil ?_; intro G xz hx0 hx hF; have hS9 := HS.out.floats hx0 hF _ (by decide) (fun _ h => h); simp only [List.map_cons, List.map_nil, List.cons_append, List.nil_append] at hS9; have HS := hide hS9; have HX := hide hx0; have HG := hide hF.at_; clear hS9 hF hx0 hx; simp only [putsE, List.foldl_cons, List.foldl_nil]; (try simp only [Act.put, nq1, nq2, nq3, nq4, nq5, nq6])
  refine wpS_storeF rfl rfl rfl rfl rfl HS.out HX.out (HG.out 11 (by simp)).1 rowE (.head) (by first | exact EA.arr ‹_› | exact arr_zE) (by first | exact EA.arr ‹_› | exact arr_zE) ?_; intro wz hS9 hX9; have HS := hide hS9; have HX := hide hX9; clear hS9 hX9; (try simp only [Act.put, nq1, nq2, nq3, nq4, nq5, nq6])
  refine wpS_nil ?_
  go_wp2_with fail
  have HS := hide HS.out.drew
  refine wp_region_XE [(11, 8)] [(0, 1), (1, 0), (2, 1), (3, 0), (5, 1), (6, 0), (7, 1), (8, 0), (4, 2), (9, 2), (10, 2)] (.op 12 2 (.nil)) zE 34 (by kernel_rfl) (by kernel_rfl) (by kernel_rfl) (by intro p hp; simp only [List.mem_cons, List.not_mem_nil, or_false] at hp; subst hp <;> exact flOp_of rfl rfl rfl (fun ev x => run_allocR rfl newE ev x)) (fun _ _ _ _ h => h) ?_
  (refine wpX_pure (v := ?_) rfl rfl ?_ ?_; rotate_left; (intro wx; go_simp; try go_bits) <;> (with_reducible rfl)); (try simp only [Act.put, nq1, nq2, nq3, nq4, nq5, nq6])
  refine wpX_loadP rfl rfl rfl rfl HS.out (.tail _ (.tail _ (.tail _ (.tail _ (.head _))))) rowE (.q1 (EA.arr ‹_›) (EA.arr ‹_›)) ?_; (try simp only [Act.put, nq1, nq2, nq3, nq4, nq5, nq6])
  (refine wpX_pure (v := ?_) rfl rfl ?_ ?_; rotate_left; (intro wx; go_simp; try go_bits) <;> (with_reducible rfl)); (try simp only [Act.put, nq1, nq2, nq3, nq4, nq5, nq6])
  refine wpX_loadP rfl rfl rfl rfl HS.out (.tail _ (.tail _ (.tail _ (.tail _ (.head _))))) rowE (.q0 (EA.arr ‹_›)) ?_; (try simp only [Act.put, nq1, nq2, nq3, nq4, nq5, nq6])
  (refine wpX_pure (v := ?_) rfl rfl ?_ ?_; rotate_left; (intro wx; go_simp; try go_bits) <;> (with_reducible rfl)); (try simp only [Act.put, nq1, nq2, nq3, nq4, nq5, nq6])
  refine wpX_loadP rfl rfl rfl rfl HS.out (.tail _ (.tail _ (.tail _ (.head _)))) rowE (.q1 (EA.arr ‹_›) (EA.arr ‹_›)) ?_; (try simp only [Act.put, nq1, nq2, nq3, nq4, nq5, nq6])
  (refine wpX_pure (v := ?_) rfl rfl ?_ ?_; rotate_left; (intro wx; go_simp; try go_bits) <;> (with_reducible rfl)); (try simp only [Act.put, nq1, nq2, nq3, nq4, nq5, nq6])
  refine wpX_loadP rfl rfl rfl rfl HS.out (.tail _ (.tail _ (.tail _ (.head _)))) rowE (.q0 (EA.arr ‹_›)) ?_; (try simp only [Act.put, nq1, nq2, nq3, nq4, nq5, nq6])
  refine wpX_callF rfl rfl rfl en53_pl rfl (fun x => addA x ‹_› ‹_›) ?_; rintro xw e wy ⟨z, hz, rfl, hb⟩; refine ⟨_, rfl, hb, ?_⟩; (try simp only [Act.put, nq1, nq2, nq3, nq4, nq5, nq6])
  refine wpX_callF rfl rfl rfl en53_pl rfl (fun x => addA x ‹_› ‹_›) ?_; rintro xw e wy ⟨z, hz, rfl, hb⟩; refine ⟨_, rfl, hb, ?_⟩; (try simp only [Act.put, nq1, nq2, nq3, nq4, nq5, nq6])
  refine wpX_callF rfl rfl rfl en36_pl rfl (fun x => mulA x ‹_› ‹_›) ?_; rintro xw e wy ⟨z, hz, rfl, hb⟩; refine ⟨_, rfl, hb, ?_⟩; (try simp only [Act.put, nq1, nq2, nq3, nq4, nq5, nq6])
  refine wpX_nil ?_; intro G xz hx0 hx hF; have hS9 := HS.out.floats hx0 hF _ (by decide) (fun _ h => h); simp only [List.map_cons, List.map_nil, List.cons_append, List.nil_append] at hS9; have HS := hide hS9; have HX := hide hx0; have HG := hide hF.at_; clear hS9 hF hx0 hx; simp only [putsE, List.foldl_cons, List.foldl_nil]; (try simp only [Act.put, nq1, nq2, nq3, nq4, nq5, nq6])
  refine wpS_storeF rfl rfl rfl rfl rfl HS.out HX.out (HG.out 11 (by simp)).1 rowE (.head) (by first | exact EA.arr ‹_› | exact arr_zE) (by first | exact EA.arr ‹_› | exact arr_zE) ?_; intro wz hS9 hX9; have HS := hide hS9; have HX := hide hX9; clear hS9 hX9; (try simp only [Act.put, nq1, nq2, nq3, nq4, nq5, nq6])
  refine wpS_nil ?_
  go_wp2_with fail
  have HS := hide HS.out.drew
  refine wp_region_XE [(7, 9)] [(0, 1), (1, 0), (2, 1), (3, 0), (5, 0), (4, 2), (6, 2)] (.op 8 2 (.nil)) zE 34 (by kernel_rfl) (by kernel_rfl) (by kernel_rfl) (by intro p hp; simp only [List.mem_cons, List.not_mem_nil, or_false] at hp; subst hp <;> exact flOp_of rfl rfl rfl (fun ev x => run_allocR rfl newE ev x)) (fun _ _ _ _ h => h) ?_
  (refine wpX_pure (v := ?_) rfl rfl ?_ ?_; rotate_left; (intro wx; go_simp; try go_bits) <;> (with_reducible rfl)); (try simp only [Act.put, nq1, nq2, nq3, nq4, nq5, nq6])
  refine wpX_loadP rfl rfl rfl rfl HS.out (.tail _ (.tail _ (.tail _ (.tail _ (.tail _ (.head _)))))) rowE (.q3 (EA.arr ‹_›) (EA.arr ‹_›) (EA.arr ‹_›) (EA.arr ‹_›)) ?_; (try simp only [Act.put, nq1, nq2, nq3, nq4, nq5, nq6])
  (refine wpX_pure (v := ?_) rfl rfl ?_ ?_; rotate_left; (intro wx; go_simp; try go_bits) <;> (with_reducible rfl)); (try simp only [Act.put, nq1, nq2, nq3, nq4, nq5, nq6])
  refine wpX_loadP rfl rfl rfl rfl HS.out (.tail _ (.tail _ (.tail _ (.tail _ (.head _))))) rowE (.q3 (EA.arr ‹_›) (EA.arr ‹_›) (EA.arr ‹_›) (EA.arr ‹_›)) ?_; (try simp only [Act.put, nq1, nq2, nq3, nq4, nq5, nq6])
  refine wpX_loadP rfl rfl rfl rfl HS.out (.tail _ (.tail _ (.tail _ (.head _)))) rowE (.all (by first | exact EA.arr ‹_› | exact arr_zE)) ?_; (try simp only [Act.put, nq1, nq2, nq3, nq4, nq5, nq6])
  refine wpX_callF rfl rfl rfl en36_pl rfl (fun x => mulA x ‹_› ‹_›) ?_; rintro xw e wy ⟨z, hz, rfl, hb⟩; refine ⟨_, rfl, hb, ?_⟩; (try simp only [Act.put, nq1, nq2, nq3, nq4, nq5, nq6])
  refine wpX_callF rfl rfl rfl en36_pl rfl (fun x => mulA x ‹_› ‹_›) ?_; rintro xw e wy ⟨z, hz, rfl, hb⟩; refine ⟨_, rfl, hb, ?_⟩; (try simp only [Act.put, nq1, nq2, nq3, nq4, nq5, nq6])
  refine wpX_nil ?_; intro G xz hx0 hx hF; have hS9 := HS.out.floats hx0 hF _ (by decide) (fun _ h => h); simp only [List.map_cons, List.map_nil, List.cons_append, List.nil_append] at hS9; have HS := hide hS9; have HX := hide hx0; have HG := hide hF.at_; clear hS9 hF hx0 hx; simp only [putsE, List.foldl_cons, List.foldl_nil]; (try simp only [Act.put, nq1, nq2, nq3, nq4, nq5, nq6])
  refine wpS_storeF rfl rfl rfl rfl rfl HS.out HX.out (HG.out 7 (by simp)).1 rowE (.head) (by first | exact EA.arr ‹_› | exact arr_zE) (by first | exact EA.arr ‹_› | exact arr_zE) ?_; intro wz hS9 hX9; have HS := hide hS9; have HX := hide hX9; clear hS9 hX9; (try simp only [Act.put, nq1, nq2, nq3, nq4, nq5, nq6])
  refine wpS_nil ?_
  go_wp2_with (first | (go_at_call 33; (with_reducible refine (mulA _ (by assumption) (by assumption)).mono ?_); rintro e wy ⟨z, hz, rfl, hb⟩; try have HS := hide (HS.out.call hb)) | (go_at_call 45; (with_reducible refine (addA _ (by assumption) (by assumption)).mono ?_); rintro e wy ⟨z, hz, rfl, hb⟩; try have HS := hide (HS.out.call hb)) | (go_at_call 43; (with_reducible refine (subA _ (by assumption) (by assumption)).mono ?_); rintro e wy ⟨z, hz, rfl, hb⟩; try have HS := hide (HS.out.call hb)) | (go_at_call 46; (with_reducible refine (negA _ (by assumption)).mono ?_); rintro e wy ⟨z, hz, rfl, hb⟩; try have HS := hide (HS.out.call hb)) | (go_at_call 32; (with_reducible refine (invA _ (by assumption)).mono ?_); rintro e wy ⟨z, hz, rfl, hb⟩; try have HS := hide (HS.out.call hb)) | (refine wl_loadP rfl rfl rfl HS.out (by (repeat first | exact .head _ | apply List.Mem.tail)) (by first | exact rowE | exact rowP | exact rowN | exact rowQ) (by (first | exact .q0 (EA.arr ‹_›) | exact .q1 (EA.arr ‹_›) (EA.arr ‹_›) | exact .q2 (EA.arr ‹_›) (EA.arr ‹_›) (EA.arr ‹_›) | exact .q3 (EA.arr ‹_›) (EA.arr ‹_›) (EA.arr ‹_›) (EA.arr ‹_›) | exact .q0 (NA.arr ‹_›) | exact .q1 (NA.arr ‹_›) (NA.arr ‹_›) | exact .q2 (NA.arr ‹_›) (NA.arr ‹_›) (NA.arr ‹_›) | exact .q3 (NA.arr ‹_›) (NA.arr ‹_›) (NA.arr ‹_›) (NA.arr ‹_›) | exact .all (by (first | exact EA.arr ‹_› | exact NA.arr ‹_› | exact arr_zE | exact arr_zN | exact arr_zP | exact arr_zQ | exact PtN.arr ‹_› | exact PtV.arr ‹_› | exact QtN.arr ‹_› | exact qE ‹_› ‹_› ‹_› ‹_› | exact qN ‹_› ‹_› ‹_› ‹_›)))) ?_; (try simp only [Act.put, nq1, nq2, nq3, nq4, nq5, nq6])) | (refine wl_storeR rfl rfl rfl rfl HS.out (by first | exact rowE | exact rowP | exact rowN | exact rowQ) (by (repeat first | exact .head | apply Upd.tail)) (by (first | exact EA.arr ‹_› | exact NA.arr ‹_› | exact arr_zE | exact arr_zN | exact arr_zP | exact arr_zQ | exact PtN.arr ‹_› | exact PtV.arr ‹_› | exact QtN.arr ‹_› | exact qE ‹_› ‹_› ‹_› ‹_› | exact qN ‹_› ‹_› ‹_› ‹_›)) (by (first | exact EA.arr ‹_› | exact NA.arr ‹_› | exact arr_zE | exact arr_zN | exact arr_zP | exact arr_zQ | exact PtN.arr ‹_› | exact PtV.arr ‹_› | exact QtN.arr ‹_› | exact qE ‹_› ‹_› ‹_› ‹_› | exact qN ‹_› ‹_› ‹_› ‹_›)) ?_; intro wz hS9; have HS := hide hS9; clear hS9; (try simp only [Act.put, nq1, nq2, nq3, nq4, nq5, nq6])) | (refine wl_allocR rfl rfl HS.out (by first | exact newE | exact newP | exact newN | exact newQ) ?_; intro gz wz hS9; have HS := hide hS9; clear hS9; (try simp only [Act.put, nq1, nq2, nq3, nq4, nq5, nq6])) | (refine wl_boxR rfl rfl rfl HS.out ?_; intro gz wz hS9; have HS := hide hS9; clear hS9; (try simp only [Act.put, nq1, nq2, nq3, nq4, nq5, nq6])))
  have HS := hide HS.out.drew
  refine wp_region_XE [(12, 11), (13, 12), (14, 13), (15, 14)] [(0, 0), (1, 0), (3, 0), (4, 0), (6, 0), (7, 0), (9, 0), (10, 0), (2, 2), (5, 2), (8, 2), (11, 2)] (.op 16 2 (.op 17 2 (.op 18 2 (.op 19 2 (.nil))))) zE 34 (by kernel_rfl) (by kernel_rfl) (by kernel_rfl) (by intro p hp; simp only [List.mem_cons, List.not_mem_nil, or_false] at hp; rcases hp with rfl | rfl | rfl | rfl <;> exact flOp_of rfl rfl rfl (fun ev x => run_allocR rfl newE ev x)) (fun _ _ _ _ h => h) ?_
  refine wpX_loadP rfl rfl rfl rfl HS.out (.tail _ (.tail _ (.head _))) rowE (.all (by first | exact EA.arr ‹_› | exact arr_zE)) ?_; (try simp only [Act.put, nq1, nq2, nq3, nq4, nq5, nq6])
  refine wpX_loadP rfl rfl rfl rfl HS.out (.tail _ (.tail _ (.tail _ (.head _)))) rowE (.all (by first | exact EA.arr ‹_› | exact arr_zE)) ?_; (try simp only [Act.put, nq1, nq2, nq3, nq4, nq5, nq6])
  refine wpX_loadP rfl rfl rfl rfl HS.out (.head _) rowE (.all (by first | exact EA.arr ‹_› | exact arr_zE)) ?_; (try simp only [Act.put, nq1, nq2, nq3, nq4, nq5, nq6])
  refine wpX_loadP rfl rfl rfl rfl HS.out (.tail _ (.head _)) rowE (.all (by first | exact EA.arr ‹_› | exact arr_zE)) ?_; (try simp only [Act.put, nq1, nq2, nq3, nq4, nq5, nq6])
  refine wpX_loadP rfl rfl rfl rfl HS.out (.head _) rowE (.all (by first | exact EA.arr ‹_› | exact arr_zE)) ?_; (try simp only [Act.put, nq1, nq2, nq3, nq4, nq5, nq6])
  refine wpX_loadP rfl rfl rfl rfl HS.out (.tail _ (.head _)) rowE (.all (by first | exact EA.arr ‹_› | exact arr_zE)) ?_; (try simp only [Act.put, nq1, nq2, nq3, nq4, nq5, nq6])
  refine wpX_loadP rfl rfl rfl rfl HS.out (.tail _ (.tail _ (.head _))) rowE (.all (by first | exact EA.arr ‹_› | exact arr_zE)) ?_; (try simp only [Act.put, nq1, nq2, nq3, nq4, nq5, nq6])
  refine wpX_loadP rfl rfl rfl rfl HS.out (.tail _ (.tail _ (.tail _ (.head _)))) rowE (.all (by first | exact EA.arr ‹_› | exact arr_zE)) ?_; (try simp only [Act.put, nq1, nq2, nq3, nq4, nq5, nq6])
  refine wpX_callF rfl rfl rfl en52_pl rfl (fun x => subA x ‹_› ‹_›) ?_; rintro xw e wy ⟨z, hz, rfl, hb⟩; refine ⟨_, rfl, hb, ?_⟩; (try simp only [Act.put, nq1, nq2, nq3, nq4, nq5, nq6])
  refine wpX_callF rfl rfl rfl en52_pl rfl (fun x => subA x ‹_› ‹_›) ?_; rintro xw e wy ⟨z, hz, rfl, hb⟩; refine ⟨_, rfl, hb, ?_⟩; (try simp only [Act.put, nq1, nq2, nq3, nq4, nq5, nq6])
  refine wpX_callF rfl rfl rfl en53_pl rfl (fun x => addA x ‹_› ‹_›) ?_; rintro xw e wy ⟨z, hz, rfl, hb⟩; refine ⟨_, rfl, hb, ?_⟩; (try simp only [Act.put, nq1, nq2, nq3, nq4, nq5, nq6])
  refine wpX_callF rfl rfl rfl en53_pl rfl (fun x => addA x ‹_› ‹_›) ?_; rintro xw e wy ⟨z, hz, rfl, hb⟩; refine ⟨_, rfl, hb, ?_⟩; (try simp only [Act.put, nq1, nq2, nq3, nq4, nq5, nq6])
  refine wpX_nil ?_; intro G xz hx0 hx hF; have hS9 := HS.out.floats hx0 hF _ (by decide) (fun _ h => h); simp only [List.map_cons, List.map_nil, List.cons_append, List.nil_append] at hS9; have HS := hide hS9; have HX := hide hx0; have HG := hide hF.at_; clear hS9 hF hx0 hx; simp only [putsE, List.foldl_cons, List.foldl_nil]; (try simp only [Act.put, nq1, nq2, nq3, nq4, nq5, nq6])
  refine wpS_storeF rfl rfl rfl rfl rfl HS.out HX.out (HG.out 12 (by simp)).1 rowE (.head) (by first | exact EA.arr ‹_› | exact arr_zE) (by first | exact EA.arr ‹_› | exact arr_zE) ?_; intro wz hS9 hX9; have HS := hide hS9; have HX := hide hX9; clear hS9 hX9; (try simp only [Act.put, nq1, nq2, nq3, nq4, nq5, nq6])
  refine wpS_storeF rfl rfl rfl rfl rfl HS.out HX.out (HG.out 13 (by simp)).1 rowE (.tail (.head)) (by first | exact EA.arr ‹_› | exact arr_zE) (by first | exact EA.arr ‹_› | exact arr_zE) ?_; intro wz hS9 hX9; have HS := hide hS9; have HX := hide hX9; clear hS9 hX9; (try simp only [Act.put, nq1, nq2, nq3, nq4, nq5, nq6])
  refine wpS_storeF rfl rfl rfl rfl rfl HS.out HX.out (HG.out 14 (by simp)).1 rowE (.tail (.tail (.head))) (by first | exact EA.arr ‹_› | exact arr_zE) (by first | exact EA.arr ‹_› | exact arr_zE) ?_; intro wz hS9 hX9; have HS := hide hS9; have HX := hide hX9; clear hS9 hX9; (try simp only [Act.put, nq1, nq2, nq3, nq4, nq5, nq6])
  refine wpS_storeF rfl rfl rfl rfl rfl HS.out HX.out (HG.out 15 (by simp)).1 rowE (.tail (.tail (.tail (.head)))) (by first | exact EA.arr ‹_› | exact arr_zE) (by first | exact EA.arr ‹_› | exact arr_zE) ?_; intro wz hS9 hX9; have HS := hide hS9; have HX := hide hX9; clear hS9 hX9; (try simp only [Act.put, nq1, nq2, nq3, nq4, nq5, nq6])
  refine wpS_nil ?_
  go_wp2_with fail
  have HS := hide HS.out.drew
  refine wp_region_T [(0, 0), (1, 0), (3, 0), (4, 0), (6, 0), (7, 0), (9, 0), (10, 0), (2, 2), (5, 2), (8, 2), (11, 2), (12, 1), (13, 3)] (by kernel_rfl) (by kernel_rfl) (fun _ _ _ _ h => h) ?_
  refine wpT_loadP rfl rfl rfl rfl HS.out (.head _) rowE (.all (by first | exact EA.arr ‹_› | exact arr_zE)) ?_; (try simp only [Act.put, nq1, nq2, nq3, nq4, nq5, nq6])
  refine wpT_loadP rfl rfl rfl rfl HS.out (.tail _ (.head _)) rowE (.all (by first | exact EA.arr ‹_› | exact arr_zE)) ?_; (try simp only [Act.put, nq1, nq2, nq3, nq4, nq5, nq6])
  refine wpT_loadP rfl rfl rfl rfl HS.out (.tail _ (.tail _ (.head _))) rowE (.all (by first | exact EA.arr ‹_› | exact arr_zE)) ?_; (try simp only [Act.put, nq1, nq2, nq3, nq4, nq5, nq6])
  refine wpT_loadP rfl rfl rfl rfl HS.out (.tail _ (.tail _ (.tail _ (.head _)))) rowE (.all (by first | exact EA.arr ‹_› | exact arr_zE)) ?_; (try simp only [Act.put, nq1, nq2, nq3, nq4, nq5, nq6])
  refine wpT_loadP rfl rfl rfl rfl HS.out (.tail _ (.head _)) rowE (.all (by first | exact EA.arr ‹_› | exact arr_zE)) ?_; (try simp only [Act.put, nq1, nq2, nq3, nq4, nq5, nq6])
  refine wpT_loadP rfl rfl rfl rfl HS.out (.tail _ (.tail _ (.head _))) rowE (.all (by first | exact EA.arr ‹_› | exact arr_zE)) ?_; (try simp only [Act.put, nq1, nq2, nq3, nq4, nq5, nq6])
  refine wpT_loadP rfl rfl rfl rfl HS.out (.head _) rowE (.all (by first | exact EA.arr ‹_› | exact arr_zE)) ?_; (try simp only [Act.put, nq1, nq2, nq3, nq4, nq5, nq6])
  refine wpT_loadP rfl rfl rfl rfl HS.out (.tail _ (.tail _ (.tail _ (.head _)))) rowE (.all (by first | exact EA.arr ‹_› | exact arr_zE)) ?_; (try simp only [Act.put, nq1, nq2, nq3, nq4, nq5, nq6])
  refine wpT_callF rfl rfl rfl en36_pl rfl (mulA _ ‹_› ‹_›) ?_; rintro e wy ⟨z, hz, rfl, hb⟩; refine ⟨_, rfl, hb, ?_⟩; have HS := hide (HS.out.call hb); (try simp only [Act.put, nq1, nq2, nq3, nq4, nq5, nq6])
  refine wpT_callF rfl rfl rfl en36_pl rfl (mulA _ ‹_› ‹_›) ?_; rintro e wy ⟨z, hz, rfl, hb⟩; refine ⟨_, rfl, hb, ?_⟩; have HS := hide (HS.out.call hb); (try simp only [Act.put, nq1, nq2, nq3, nq4, nq5, nq6])
  refine wpT_callF rfl rfl rfl en36_pl rfl (mulA _ ‹_› ‹_›) ?_; rintro e wy ⟨z, hz, rfl, hb⟩; refine ⟨_, rfl, hb, ?_⟩; have HS := hide (HS.out.call hb); (try simp only [Act.put, nq1, nq2, nq3, nq4, nq5, nq6])
  refine wpT_callF rfl rfl rfl en36_pl rfl (mulA _ ‹_› ‹_›) ?_; rintro e wy ⟨z, hz, rfl, hb⟩; refine ⟨_, rfl, hb, ?_⟩; have HS := hide (HS.out.call hb); (try simp only [Act.put, nq1, nq2, nq3, nq4, nq5, nq6])
  refine wpT_pure rfl rfl (fun x => run_build4 rfl rfl rfl rfl rfl buildP (exE ‹_›) (exE ‹_›) (exE ‹_›) (exE ‹_›) x) ?_; (try simp only [Act.put, nq1, nq2, nq3, nq4, nq5, nq6])
  refine wpT_late rfl rfl ?_; intro K hK; refine wp_storeR rfl rfl rfl HS.out rowP (.tail (.tail (.tail (.tail (.tail (.tail (.tail (.tail (.head))))))))) (by first | exact arr_zP | exact PtN.arr ‹_› | exact PtV.arr ‹_› | exact qE ‹_› ‹_› ‹_› ‹_›) (by first | exact arr_zP | exact PtN.arr ‹_› | exact PtV.arr ‹_› | exact qE ‹_› ‹_› ‹_› ‹_›) ?_; intro wz hS9; have HS := hide hS9; clear hS9; refine hK _ _ ?_; (try simp only [Act.put, nq1, nq2, nq3, nq4, nq5, nq6])
  refine wpT_nil ?_
  go_wp2_with fail
  refine bodyPost_ret (results_cell_row rfl _ _ _ _ _ _ _ rfl (HS.out.heapM (by (repeat first | exact .head _ | apply List.Mem.tail))) Tryd.underlying36 rfl (by first | (rw [(EA.arr ‹_›).size]; kernel_rfl) | (rw [(NA.arr ‹_›).size]; kernel_rfl) | (rw [(qE ‹_› ‹_› ‹_› ‹_›).size]; kernel_rfl) | (rw [(qN ‹_› ‹_› ‹_› ‹_›).size]; kernel_rfl) | (rw [(PtN.arr ‹_›).size]; kernel_rfl) | (rw [(PtV.arr ‹_›).size]; kernel_rfl) | (rw [(QtN.arr ‹_›).size]; kernel_rfl))) rfl ?_
  refine ⟨_, _, _, _, ?_, ?_, ?_, ?_, rfl, HS.out.below⟩ <;> assumption
end Go.Proofs.YtkelegjppnfoaaaDoor

/-
  Layer 4: the code's points: a point itself, Zero, Base, a sum, a point turned about.
-/
namespace Go.Proofs.YtkelegjppnfoaaaDoor
open Go.RowKit
set_option linter.unusedSimpArgs false

/-- Four elements that stand for a point. -/
structure PtN (v : Array Value) (P : Ed) : Prop where
  ex : ∃ A a b c d, v = quad a b c d ∧ EA a A.X ∧ EA b A.Y ∧ EA c A.Z ∧ EA d A.T ∧ Rp A P
/-- The same, or the zero value, which is taken as Zero. -/
structure PtV (v : Array Value) (P : Ed) : Prop where
  ex : ∃ A a b c d, v = quad a b c d ∧ EA a A.X ∧ EA b A.Y ∧ EA c A.Z ∧ EA d A.T ∧ (Rp A P ∨ (A.Z = 0 ∧ P = .zero))
theorem PtN.v {v : Array Value} {P : Ed} (h : PtN v P) : PtV v P := by
  obtain ⟨A, a, b, c, d, h1, h2, h3, h4, h5, h6⟩ := h.ex
  exact ⟨A, a, b, c, d, h1, h2, h3, h4, h5, .inl h6⟩
theorem PtV.arr {v : Array Value} {P : Ed} (h : PtV v P) : Arr 20 v := by
  obtain ⟨A, a, b, c, d, rfl, h2, h3, h4, h5, _⟩ := h.ex
  exact quad_arr h2.arr h3.arr h4.arr h5.arr rfl
theorem PtN.arr {v : Array Value} {P : Ed} (h : PtN v P) : Arr 20 v := h.v.arr
def ResV (w : World) (P : Ed) (e : Ending) (w' : World) : Prop := ∃ v, PtN v P ∧ e = .returned (.agg v) ∧ Below w.heap.size w w'
theorem ResP.v {w : World} {A : Pj} {P : Ed} {e : Ending} {w' : World} (h : ResP w A e w') (hr : Rp A P) : ResV w P e w' := by
  obtain ⟨a, b, c, d, h1, h2, h3, h4, h5, h6⟩ := h
  exact ⟨_, ⟨A, a, b, c, d, rfl, h1, h2, h3, h4, hr⟩, h5, h6⟩
theorem plusP {u v k : Array Value} {P Q : Ed} (w : World) (hu : PtN u P) (hv : PtN v Q) (hk : EA k dF) : Calls Tryd.prog 30 #[.agg u, .agg v, .agg k] w (ResV w (P.add Q)) := by
  obtain ⟨⟨X, Y, Z, T⟩, a, b, c, d, rfl, h1, h2, h3, h4, h5⟩ := hu.ex
  obtain ⟨⟨X', Y', Z', T'⟩, a', b', c', d', rfl, g1, g2, g3, g4, g5⟩ := hv.ex
  exact (plus_any w h1 h2 h3 h4 g1 g2 g3 g4 hk).mono fun e w' h => h.v (rp_plus h5 g5)
set_option maxRecDepth 100000 in
set_option maxHeartbeats 1600000 in
theorem zeroP (w : World) : Calls Tryd.prog 31 #[] w (ResV w .zero) := by
  have hz0 := ea_zero
  have HS := hide (St.init w NoB)
  go_enter Tryd.func31, Tryd.ntmps31
  go_wp2_with (first | (go_at_call 44; (with_reducible refine (small1A _).mono ?_); rintro e wy ⟨z, hz, rfl, hb⟩; try have HS := hide (HS.out.call hb)) | (go_at_call 27; (with_reducible refine (at_any _ (by assumption) (by assumption)).mono ?_); rintro e wy ⟨qa, qb, qc, qd, hqa, hqb, hqc, hqd, rfl, hb⟩; have HS := hide (HS.out.call hb)) | (refine wl_loadP rfl rfl rfl HS.out (by (repeat first | exact .head _ | apply List.Mem.tail)) (by first | exact rowE | exact rowP | exact rowN | exact rowQ) (by (first | exact .q0 (EA.arr ‹_›) | exact .q1 (EA.arr ‹_›) (EA.arr ‹_›) | exact .q2 (EA.arr ‹_›) (EA.arr ‹_›) (EA.arr ‹_›) | exact .q3 (EA.arr ‹_›) (EA.arr ‹_›) (EA.arr ‹_›) (EA.arr ‹_›) | exact .q0 (NA.arr ‹_›) | exact .q1 (NA.arr ‹_›) (NA.arr ‹_›) | exact .q2 (NA.arr ‹_›) (NA.arr ‹_›) (NA.arr ‹_›) | exact .q3 (NA.arr ‹_›) (NA.arr ‹_›) (NA.arr ‹_›) (NA.arr ‹_›) | exact .all (by (first | exact EA.arr ‹_› | exact NA.arr ‹_› | exact arr_zE | exact arr_zN | exact arr_zP | exact arr_zQ | exact PtN.arr ‹_› | exact PtV.arr ‹_› | exact QtN.arr ‹_› | exact qE ‹_› ‹_› ‹_› ‹_› | exact qN ‹_› ‹_› ‹_› ‹_›)))) ?_; (try simp only [Act.put, nq1, nq2, nq3, nq4, nq5, nq6])) | (refine wl_storeR rfl rfl rfl rfl HS.out (by first | exact rowE | exact rowP | exact rowN | exact rowQ) (by (repeat first | exact .head | apply Upd.tail)) (by (first | exact EA.arr ‹_› | exact NA.arr ‹_› | exact arr_zE | exact arr_zN | exact arr_zP | exact arr_zQ | exact PtN.arr ‹_› | exact PtV.arr ‹_› | exact QtN.arr ‹_› | exact qE ‹_› ‹_› ‹_› ‹_› | exact qN ‹_› ‹_› ‹_› ‹_›)) (by (first | exact EA.arr ‹_› | exact NA.arr ‹_› | exact arr_zE | exact arr_zN | exact arr_zP | exact arr_zQ | exact PtN.arr ‹_› | exact PtV.arr ‹_› | exact QtN.arr ‹_› | exact qE ‹_› ‹_› ‹_› ‹_› | exact qN ‹_› ‹_› ‹_› ‹_›)) ?_; intro wz hS9; have HS := hide hS9; clear hS9; (try simp only [Act.put, nq1, nq2, nq3, nq4, nq5, nq6])) | (refine wl_allocR rfl rfl HS.out (by first | exact newE | exact newP | exact newN | exact newQ) ?_; intro gz wz hS9; have HS := hide hS9; clear hS9; (try simp only [Act.put, nq1, nq2, nq3, nq4, nq5, nq6])) | (refine wl_boxR rfl rfl rfl HS.out ?_; intro gz wz hS9; have HS := hide hS9; clear hS9; (try simp only [Act.put, nq1, nq2, nq3, nq4, nq5, nq6])))
  refine bodyPost_ret (results_cell_row rfl _ _ _ _ _ _ _ rfl (HS.out.heapM (by (repeat first | exact .head _ | apply List.Mem.tail))) Tryd.underlying36 rfl (by first | (rw [(EA.arr ‹_›).size]; kernel_rfl) | (rw [(NA.arr ‹_›).size]; kernel_rfl) | (rw [(qE ‹_› ‹_› ‹_› ‹_›).size]; kernel_rfl) | (rw [(qN ‹_› ‹_› ‹_› ‹_›).size]; kernel_rfl) | (rw [(PtN.arr ‹_›).size]; kernel_rfl) | (rw [(PtV.arr ‹_›).size]; kernel_rfl) | (rw [(QtN.arr ‹_›).size]; kernel_rfl))) rfl ?_
  exact ⟨_, ⟨⟨_, _, _, _⟩, _, _, _, _, rfl, hqa, hqb, hqc, hqd, by rw [show ((0 : FK) * 1) = 0 from fl8 0]; exact rp_zero⟩, rfl, HS.out.below⟩
set_option maxRecDepth 100000 in
set_option maxHeartbeats 1600000 in
theorem baseP (w : World) : Calls Tryd.prog 12 #[] w (ResV w Bp) := by
  have HS := hide (St.init w NoB)
  go_enter Tryd.func12, Tryd.ntmps12
  go_wp2_with (first | (go_at_call 28; (with_reducible refine (numX _).mono ?_); rintro e wy ⟨z, hz, rfl, hb⟩; try have HS := hide (HS.out.call hb)) | (go_at_call 28; (with_reducible refine (numY _).mono ?_); rintro e wy ⟨z, hz, rfl, hb⟩; try have HS := hide (HS.out.call hb)) | (go_at_call 27; (with_reducible refine (at_any _ (by assumption) (by assumption)).mono ?_); rintro e wy ⟨qa, qb, qc, qd, hqa, hqb, hqc, hqd, rfl, hb⟩; have HS := hide (HS.out.call hb)) | (refine wl_loadP rfl rfl rfl HS.out (by (repeat first | exact .head _ | apply List.Mem.tail)) (by first | exact rowE | exact rowP | exact rowN | exact rowQ) (by (first | exact .q0 (EA.arr ‹_›) | exact .q1 (EA.arr ‹_›) (EA.arr ‹_›) | exact .q2 (EA.arr ‹_›) (EA.arr ‹_›) (EA.arr ‹_›) | exact .q3 (EA.arr ‹_›) (EA.arr ‹_›) (EA.arr ‹_›) (EA.arr ‹_›) | exact .q0 (NA.arr ‹_›) | exact .q1 (NA.arr ‹_›) (NA.arr ‹_›) | exact .q2 (NA.arr ‹_›) (NA.arr ‹_›) (NA.arr ‹_›) | exact .q3 (NA.arr ‹_›) (NA.arr ‹_›) (NA.arr ‹_›) (NA.arr ‹_›) | exact .all (by (first | exact EA.arr ‹_› | exact NA.arr ‹_› | exact arr_zE | exact arr_zN | exact arr_zP | exact arr_zQ | exact PtN.arr ‹_› | exact PtV.arr ‹_› | exact QtN.arr ‹_› | exact qE ‹_› ‹_› ‹_› ‹_› | exact qN ‹_› ‹_› ‹_› ‹_›)))) ?_; (try simp only [Act.put, nq1, nq2, nq3, nq4, nq5, nq6])) | (refine wl_storeR rfl rfl rfl rfl HS.out (by first | exact rowE | exact rowP | exact rowN | exact rowQ) (by (repeat first | exact .head | apply Upd.tail)) (by (first | exact EA.arr ‹_› | exact NA.arr ‹_› | exact arr_zE | exact arr_zN | exact arr_zP | exact arr_zQ | exact PtN.arr ‹_› | exact PtV.arr ‹_› | exact QtN.arr ‹_› | exact qE ‹_› ‹_› ‹_› ‹_› | exact qN ‹_› ‹_› ‹_› ‹_›)) (by (first | exact EA.arr ‹_› | exact NA.arr ‹_› | exact arr_zE | exact arr_zN | exact arr_zP | exact arr_zQ | exact PtN.arr ‹_› | exact PtV.arr ‹_› | exact QtN.arr ‹_› | exact qE ‹_› ‹_› ‹_› ‹_› | exact qN ‹_› ‹_› ‹_› ‹_›)) ?_; intro wz hS9; have HS := hide hS9; clear hS9; (try simp only [Act.put, nq1, nq2, nq3, nq4, nq5, nq6])) | (refine wl_allocR rfl rfl HS.out (by first | exact newE | exact newP | exact newN | exact newQ) ?_; intro gz wz hS9; have HS := hide hS9; clear hS9; (try simp only [Act.put, nq1, nq2, nq3, nq4, nq5, nq6])) | (refine wl_boxR rfl rfl rfl HS.out ?_; intro gz wz hS9; have HS := hide hS9; clear hS9; (try simp only [Act.put, nq1, nq2, nq3, nq4, nq5, nq6])))
  refine bodyPost_ret (results_cell_row rfl _ _ _ _ _ _ _ rfl (HS.out.heapM (by (repeat first | exact .head _ | apply List.Mem.tail))) Tryd.underlying36 rfl (by first | (rw [(EA.arr ‹_›).size]; kernel_rfl) | (rw [(NA.arr ‹_›).size]; kernel_rfl) | (rw [(qE ‹_› ‹_› ‹_› ‹_›).size]; kernel_rfl) | (rw [(qN ‹_› ‹_› ‹_› ‹_›).size]; kernel_rfl) | (rw [(PtN.arr ‹_›).size]; kernel_rfl) | (rw [(PtV.arr ‹_›).size]; kernel_rfl) | (rw [(QtN.arr ‹_›).size]; kernel_rfl))) rfl ?_
  exact ⟨_, ⟨⟨_, _, _, _⟩, _, _, _, _, rfl, hqa, hqb, hqc, hqd, rp_of Bp⟩, rfl, HS.out.below⟩
set_option maxRecDepth 100000 in
set_option maxHeartbeats 1600000 in
theorem wholeP {v : Array Value} {P : Ed} (w : World) (hv : PtV v P) : Calls Tryd.prog 29 #[.agg v] w (ResV w P) := by
  have hN := hv
  obtain ⟨⟨X, Y, Z, T⟩, a, b, c, d, rfl, h1, h2, h3, h4, h5⟩ := hv.ex
  have HS := hide (St.init w NoB)
  have HZ := hide (fun W => zeroP W)
  by_cases hz : Z = 0
  · have hP : P = .zero := by
      rcases h5 with h | h
      · exact absurd hz h.z
      · exact h.2
    subst hP
    have HC := hide (fun W => zeroA W h3)
    rw [decide_eq_true hz] at HC
    clear h5 hz
    go_enter Tryd.func29, Tryd.ntmps29
    go_wp2_with (first | (go_at_call 55; (with_reducible refine (HC.out _).mono ?_); rintro e wy ⟨rfl, hb⟩; have HS := hide (HS.out.call hb)) | (go_at_call 31; (with_reducible refine (HZ.out _).mono ?_); rintro e wy ⟨z, hz, rfl, hb⟩; try have HS := hide (HS.out.call hb)) | (refine wl_loadP rfl rfl rfl HS.out (by (repeat first | exact .head _ | apply List.Mem.tail)) (by first | exact rowE | exact rowP | exact rowN | exact rowQ) (by (first | exact .q0 (EA.arr ‹_›) | exact .q1 (EA.arr ‹_›) (EA.arr ‹_›) | exact .q2 (EA.arr ‹_›) (EA.arr ‹_›) (EA.arr ‹_›) | exact .q3 (EA.arr ‹_›) (EA.arr ‹_›) (EA.arr ‹_›) (EA.arr ‹_›) | exact .q0 (NA.arr ‹_›) | exact .q1 (NA.arr ‹_›) (NA.arr ‹_›) | exact .q2 (NA.arr ‹_›) (NA.arr ‹_›) (NA.arr ‹_›) | exact .q3 (NA.arr ‹_›) (NA.arr ‹_›) (NA.arr ‹_›) (NA.arr ‹_›) | exact .all (by (first | exact EA.arr ‹_› | exact NA.arr ‹_› | exact arr_zE | exact arr_zN | exact arr_zP | exact arr_zQ | exact PtN.arr ‹_› | exact PtV.arr ‹_› | exact QtN.arr ‹_› | exact qE ‹_› ‹_› ‹_› ‹_› | exact qN ‹_› ‹_› ‹_› ‹_›)))) ?_; (try simp only [Act.put, nq1, nq2, nq3, nq4, nq5, nq6])) | (refine wl_storeR rfl rfl rfl rfl HS.out (by first | exact rowE | exact rowP | exact rowN | exact rowQ) (by (repeat first | exact .head | apply Upd.tail)) (by (first | exact EA.arr ‹_› | exact NA.arr ‹_› | exact arr_zE | exact arr_zN | exact arr_zP | exact arr_zQ | exact PtN.arr ‹_› | exact PtV.arr ‹_› | exact QtN.arr ‹_› | exact qE ‹_› ‹_› ‹_› ‹_› | exact qN ‹_› ‹_› ‹_› ‹_›)) (by (first | exact EA.arr ‹_› | exact NA.arr ‹_› | exact arr_zE | exact arr_zN | exact arr_zP | exact arr_zQ | exact PtN.arr ‹_› | exact PtV.arr ‹_› | exact QtN.arr ‹_› | exact qE ‹_› ‹_› ‹_› ‹_› | exact qN ‹_› ‹_› ‹_› ‹_›)) ?_; intro wz hS9; have HS := hide hS9; clear hS9; (try simp only [Act.put, nq1, nq2, nq3, nq4, nq5, nq6])) | (refine wl_allocR rfl rfl HS.out (by first | exact newE | exact newP | exact newN | exact newQ) ?_; intro gz wz hS9; have HS := hide hS9; clear hS9; (try simp only [Act.put, nq1, nq2, nq3, nq4, nq5, nq6])) | (refine wl_boxR rfl rfl rfl HS.out ?_; intro gz wz hS9; have HS := hide hS9; clear hS9; (try simp only [Act.put, nq1, nq2, nq3, nq4, nq5, nq6])))
    refine bodyPost_ret (results_cell_row rfl _ _ _ _ _ _ _ rfl (HS.out.heapM (by (repeat first | exact .head _ | apply List.Mem.tail))) Tryd.underlying36 rfl (by first | (rw [(EA.arr ‹_›).size]; kernel_rfl) | (rw [(NA.arr ‹_›).size]; kernel_rfl) | (rw [(qE ‹_› ‹_› ‹_› ‹_›).size]; kernel_rfl) | (rw [(qN ‹_› ‹_› ‹_› ‹_›).size]; kernel_rfl) | (rw [(PtN.arr ‹_›).size]; kernel_rfl) | (rw [(PtV.arr ‹_›).size]; kernel_rfl) | (rw [(QtN.arr ‹_›).size]; kernel_rfl))) rfl ?_
    exact ⟨_, by assumption, rfl, HS.out.below⟩
  · have hr : Rp ⟨X, Y, Z, T⟩ P := by
      rcases h5 with h | h
      · exact h
      · exact absurd h.1 hz
    have HC := hide (fun W => zeroA W h3)
    rw [decide_eq_false hz] at HC
    clear h5
    go_enter Tryd.func29, Tryd.ntmps29
    go_wp2_with (first | (go_at_call 55; (with_reducible refine (HC.out _).mono ?_); rintro e wy ⟨rfl, hb⟩; have HS := hide (HS.out.call hb)) | (refine wl_loadP rfl rfl rfl HS.out (by (repeat first | exact .head _ | apply List.Mem.tail)) (by first | exact rowE | exact rowP | exact rowN | exact rowQ) (by (first | exact .q0 (EA.arr ‹_›) | exact .q1 (EA.arr ‹_›) (EA.arr ‹_›) | exact .q2 (EA.arr ‹_›) (EA.arr ‹_›) (EA.arr ‹_›) | exact .q3 (EA.arr ‹_›) (EA.arr ‹_›) (EA.arr ‹_›) (EA.arr ‹_›) | exact .q0 (NA.arr ‹_›) | exact .q1 (NA.arr ‹_›) (NA.arr ‹_›) | exact .q2 (NA.arr ‹_›) (NA.arr ‹_›) (NA.arr ‹_›) | exact .q3 (NA.arr ‹_›) (NA.arr ‹_›) (NA.arr ‹_›) (NA.arr ‹_›) | exact .all (by (first | exact EA.arr ‹_› | exact NA.arr ‹_› | exact arr_zE | exact arr_zN | exact arr_zP | exact arr_zQ | exact PtN.arr ‹_› | exact PtV.arr ‹_› | exact QtN.arr ‹_› | exact qE ‹_› ‹_› ‹_› ‹_› | exact qN ‹_› ‹_› ‹_› ‹_›)))) ?_; (try simp only [Act.put, nq1, nq2, nq3, nq4, nq5, nq6])) | (refine wl_storeR rfl rfl rfl rfl HS.out (by first | exact rowE | exact rowP | exact rowN | exact rowQ) (by (repeat first | exact .head | apply Upd.tail)) (by (first | exact EA.arr ‹_› | exact NA.arr ‹_› | exact arr_zE | exact arr_zN | exact arr_zP | exact arr_zQ | exact PtN.arr ‹_› | exact PtV.arr ‹_› | exact QtN.arr ‹_› | exact qE ‹_› ‹_› ‹_› ‹_› | exact qN ‹_› ‹_› ‹_› ‹_›)) (by (first | exact EA.arr ‹_› | exact NA.arr ‹_› | exact arr_zE | exact arr_zN | exact arr_zP | exact arr_zQ | exact PtN.arr ‹_› | exact PtV.arr ‹_› | exact QtN.arr ‹_› | exact qE ‹_› ‹_› ‹_› ‹_› | exact qN ‹_› ‹_› ‹_› ‹_›)) ?_; intro wz hS9; have HS := hide hS9; clear hS9; (try simp only [Act.put, nq1, nq2, nq3, nq4, nq5, nq6])) | (refine wl_allocR rfl rfl HS.out (by first | exact newE | exact newP | exact newN | exact newQ) ?_; intro gz wz hS9; have HS := hide hS9; clear hS9; (try simp only [Act.put, nq1, nq2, nq3, nq4, nq5, nq6])) | (refine wl_boxR rfl rfl rfl HS.out ?_; intro gz wz hS9; have HS := hide hS9; clear hS9; (try simp only [Act.put, nq1, nq2, nq3, nq4, nq5, nq6])))
    refine bodyPost_ret (results_cell_row rfl _ _ _ _ _ _ _ rfl (HS.out.heapM (by (repeat first | exact .head _ | apply List.Mem.tail))) Tryd.underlying36 rfl (by first | (rw [(EA.arr ‹_›).size]; kernel_rfl) | (rw [(NA.arr ‹_›).size]; kernel_rfl) | (rw [(qE ‹_› ‹_› ‹_› ‹_›).size]; kernel_rfl) | (rw [(qN ‹_› ‹_› ‹_› ‹_›).size]; kernel_rfl) | (rw [(PtN.arr ‹_›).size]; kernel_rfl) | (rw [(PtV.arr ‹_›).size]; kernel_rfl) | (rw [(QtN.arr ‹_›).size]; kernel_rfl))) rfl ?_
    exact ⟨_, ⟨⟨X, Y, Z, T⟩, _, _, _, _, rfl, h1, h2, h3, h4, hr⟩, rfl, HS.out.below⟩
theorem enWh (args : Array Value) (w : World) : (callFunc 29 args).run Tryd.prog w = .ok (.enter 29 args) w := by kernel_rfl
theorem en29_ad (args : Array Value) (w : World) : (callFunc 28 args).run Tryd.prog w = .ok (.enter 28 args) w := by kernel_rfl
theorem en31_ad (args : Array Value) (w : World) : (callFunc 30 args).run Tryd.prog w = .ok (.enter 30 args) w := by kernel_rfl
theorem en45_ng (args : Array Value) (w : World) : (callFunc 46 args).run Tryd.prog w = .ok (.enter 46 args) w := by kernel_rfl
set_option maxRecDepth 100000 in
set_option maxHeartbeats 1600000 in
theorem addP {u v : Array Value} {P Q : Ed} (w : World) (hu : PtV u P) (hv : PtV v Q) : Calls Tryd.prog 18 #[.agg u, .agg v] w (ResV w (P.add Q)) := by
  have HS := hide (St.init w NoB)
  go_enter Tryd.func18, Tryd.ntmps18
  go_wp2_with (first | (refine wl_loadP rfl rfl rfl HS.out (by (repeat first | exact .head _ | apply List.Mem.tail)) (by first | exact rowE | exact rowP | exact rowN | exact rowQ) (by (first | exact .q0 (EA.arr ‹_›) | exact .q1 (EA.arr ‹_›) (EA.arr ‹_›) | exact .q2 (EA.arr ‹_›) (EA.arr ‹_›) (EA.arr ‹_›) | exact .q3 (EA.arr ‹_›) (EA.arr ‹_›) (EA.arr ‹_›) (EA.arr ‹_›) | exact .q0 (NA.arr ‹_›) | exact .q1 (NA.arr ‹_›) (NA.arr ‹_›) | exact .q2 (NA.arr ‹_›) (NA.arr ‹_›) (NA.arr ‹_›) | exact .q3 (NA.arr ‹_›) (NA.arr ‹_›) (NA.arr ‹_›) (NA.arr ‹_›) | exact .all (by (first | exact EA.arr ‹_› | exact NA.arr ‹_› | exact arr_zE | exact arr_zN | exact arr_zP | exact arr_zQ | exact PtN.arr ‹_› | exact PtV.arr ‹_› | exact QtN.arr ‹_› | exact qE ‹_› ‹_› ‹_› ‹_› | exact qN ‹_› ‹_› ‹_› ‹_›)))) ?_; (try simp only [Act.put, nq1, nq2, nq3, nq4, nq5, nq6])) | (refine wl_storeR rfl rfl rfl rfl HS.out (by first | exact rowE | exact rowP | exact rowN | exact rowQ) (by (repeat first | exact .head | apply Upd.tail)) (by (first | exact EA.arr ‹_› | exact NA.arr ‹_› | exact arr_zE | exact arr_zN | exact arr_zP | exact arr_zQ | exact PtN.arr ‹_› | exact PtV.arr ‹_› | exact QtN.arr ‹_› | exact qE ‹_› ‹_› ‹_› ‹_› | exact qN ‹_› ‹_› ‹_› ‹_›)) (by (first | exact EA.arr ‹_› | exact NA.arr ‹_› | exact arr_zE | exact arr_zN | exact arr_zP | exact arr_zQ | exact PtN.arr ‹_› | exact PtV.arr ‹_› | exact QtN.arr ‹_› | exact qE ‹_› ‹_› ‹_› ‹_› | exact qN ‹_› ‹_› ‹_› ‹_›)) ?_; intro wz hS9; have HS := hide hS9; clear hS9; (try simp only [Act.put, nq1, nq2, nq3, nq4, nq5, nq6])) | (refine wl_allocR rfl rfl HS.out (by first | exact newE | exact newP | exact newN | exact newQ) ?_; intro gz wz hS9; have HS := hide hS9; clear hS9; (try simp only [Act.put, nq1, nq2, nq3, nq4, nq5, nq6])) | (refine wl_boxR rfl rfl rfl HS.out ?_; intro gz wz hS9; have HS := hide hS9; clear hS9; (try simp only [Act.put, nq1, nq2, nq3, nq4, nq5, nq6])))
  have HS := hide HS.out.drew
  have HX := hide (From.refl wz.drew)
  refine wp_region_S (.two 0 2 (.two 1 2 (.op 2 2 (.op 3 2 (.op 4 3 (.op 5 4 (.nil))))) (.op 1 2 (.op 3 2 (.op 4 3 (.op 5 4 (.nil)))))) (.op 0 2 (.op 1 2 (.op 3 2 (.op 4 3 (.op 5 4 (.nil))))))) (by kernel_rfl) (by kernel_rfl) (fun _ _ _ _ h => h) ?_
  refine wpS_two ?_ ?_
  · refine wpS_call rfl rfl ?_; intro K hK; refine wp_loadP rfl rfl HS.out (.tail _ (.tail _ (.head _))) (.all (by (first | exact EA.arr ‹_› | exact NA.arr ‹_› | exact arr_zE | exact arr_zN | exact arr_zP | exact arr_zQ | exact PtN.arr ‹_› | exact PtV.arr ‹_› | exact QtN.arr ‹_› | exact qE ‹_› ‹_› ‹_› ‹_› | exact qN ‹_› ‹_› ‹_› ‹_›))) rowP ?_; refine hK _ _ (fromT_mk HX.out ?_); (try simp only [Act.put, nq1, nq2, nq3, nq4, nq5, nq6])
    refine wpS_two ?_ ?_
    · refine wpS_call rfl rfl ?_; intro K hK; refine wp_call rfl enWh rfl (wholeP _ (by assumption)) ?_; rintro e wy ⟨z, hz, rfl, hb⟩; refine ⟨_, rfl, ?_⟩; have HS := hide (HS.out.call hb); have HX := hide (HX.out.trans (hb.mono HX.out.size)); refine hK _ _ (fromT_mk HX.out ?_); (try simp only [Act.put, nq1, nq2, nq3, nq4, nq5, nq6])
      refine wpS_call rfl rfl ?_; intro K hK; refine wp_loadP rfl rfl HS.out (.tail _ (.head _)) (.all (by (first | exact EA.arr ‹_› | exact NA.arr ‹_› | exact arr_zE | exact arr_zN | exact arr_zP | exact arr_zQ | exact PtN.arr ‹_› | exact PtV.arr ‹_› | exact QtN.arr ‹_› | exact qE ‹_› ‹_› ‹_› ‹_› | exact qN ‹_› ‹_› ‹_› ‹_›))) rowP ?_; refine hK _ _ (fromT_mk HX.out ?_); (try simp only [Act.put, nq1, nq2, nq3, nq4, nq5, nq6])
      refine wpS_call rfl rfl ?_; intro K hK; refine wp_call rfl enWh rfl (wholeP _ (by assumption)) ?_; rintro e wy ⟨z, hz, rfl, hb⟩; refine ⟨_, rfl, ?_⟩; have HS := hide (HS.out.call hb); have HX := hide (HX.out.trans (hb.mono HX.out.size)); refine hK _ _ (fromT_mk HX.out ?_); (try simp only [Act.put, nq1, nq2, nq3, nq4, nq5, nq6])
      refine wpS_late rfl rfl ?_; intro K hK; refine wp_storeR rfl rfl rfl HS.out rowP (.tail (.tail (.head))) (by (first | exact EA.arr ‹_› | exact NA.arr ‹_› | exact arr_zE | exact arr_zN | exact arr_zP | exact arr_zQ | exact PtN.arr ‹_› | exact PtV.arr ‹_› | exact QtN.arr ‹_› | exact qE ‹_› ‹_› ‹_› ‹_› | exact qN ‹_› ‹_› ‹_› ‹_›)) (by (first | exact EA.arr ‹_› | exact NA.arr ‹_› | exact arr_zE | exact arr_zN | exact arr_zP | exact arr_zQ | exact PtN.arr ‹_› | exact PtV.arr ‹_› | exact QtN.arr ‹_› | exact qE ‹_› ‹_› ‹_› ‹_› | exact qN ‹_› ‹_› ‹_› ‹_›)) ?_; intro wz hS9; have HS := hide hS9; clear hS9; refine hK _ _ ?_; (try simp only [Act.put, nq1, nq2, nq3, nq4, nq5, nq6])
      refine wpS_any rfl rfl ?_; intro K hK; refine wp_storeR rfl rfl rfl HS.out rowP (.tail (.head)) (by (first | exact EA.arr ‹_› | exact NA.arr ‹_› | exact arr_zE | exact arr_zN | exact arr_zP | exact arr_zQ | exact PtN.arr ‹_› | exact PtV.arr ‹_› | exact QtN.arr ‹_› | exact qE ‹_› ‹_› ‹_› ‹_› | exact qN ‹_› ‹_› ‹_› ‹_›)) (by (first | exact EA.arr ‹_› | exact NA.arr ‹_› | exact arr_zE | exact arr_zN | exact arr_zP | exact arr_zQ | exact PtN.arr ‹_› | exact PtV.arr ‹_› | exact QtN.arr ‹_› | exact qE ‹_› ‹_› ‹_› ‹_› | exact qN ‹_› ‹_› ‹_› ‹_›)) ?_; intro wz hS9; have HS := hide hS9; clear hS9; refine hK _ _ ?_; (try simp only [Act.put, nq1, nq2, nq3, nq4, nq5, nq6])
      refine wpS_nil ?_
      go_wp2_with fail
      have HS := hide HS.out.drew
      refine wp_region_T [(0, 0), (1, 0), (2, 2), (3, 2), (4, 3)] (by kernel_rfl) (by kernel_rfl) (fun _ _ _ _ h => h) ?_
      refine wpT_loadP rfl rfl rfl rfl HS.out (.tail _ (.tail _ (.head _))) rowP (.all (by first | exact arr_zP | exact PtN.arr ‹_› | exact PtV.arr ‹_› | exact qE ‹_› ‹_› ‹_› ‹_›)) ?_; (try simp only [Act.put, nq1, nq2, nq3, nq4, nq5, nq6])
      refine wpT_loadP rfl rfl rfl rfl HS.out (.tail _ (.head _)) rowP (.all (by first | exact arr_zP | exact PtN.arr ‹_› | exact PtV.arr ‹_› | exact qE ‹_› ‹_› ‹_› ‹_›)) ?_; (try simp only [Act.put, nq1, nq2, nq3, nq4, nq5, nq6])
      refine wpT_callF rfl rfl rfl en29_ad rfl (numD _) ?_; rintro e wy ⟨z, hz, rfl, hb⟩; refine ⟨_, rfl, hb, ?_⟩; have HS := hide (HS.out.call hb); (try simp only [Act.put, nq1, nq2, nq3, nq4, nq5, nq6])
      refine wpT_callF rfl rfl rfl en31_ad rfl (plusP _ (by assumption) (by assumption) (by assumption)) ?_; rintro e wy ⟨z, hz, rfl, hb⟩; refine ⟨_, rfl, hb, ?_⟩; have HS := hide (HS.out.call hb); (try simp only [Act.put, nq1, nq2, nq3, nq4, nq5, nq6])
      refine wpT_late rfl rfl ?_; intro K hK; refine wp_storeR rfl rfl rfl HS.out rowP (.head) (by first | exact arr_zP | exact PtN.arr ‹_› | exact PtV.arr ‹_› | exact qE ‹_› ‹_› ‹_› ‹_›) (by first | exact arr_zP | exact PtN.arr ‹_› | exact PtV.arr ‹_› | exact qE ‹_› ‹_› ‹_› ‹_›) ?_; intro wz hS9; have HS := hide hS9; clear hS9; refine hK _ _ ?_; (try simp only [Act.put, nq1, nq2, nq3, nq4, nq5, nq6])
      refine wpT_nil ?_
      go_wp2_with fail
      refine bodyPost_ret (results_cell_row rfl _ _ _ _ _ _ _ rfl (HS.out.heapM (by (repeat first | exact .head _ | apply List.Mem.tail))) Tryd.underlying36 rfl (by first | (rw [(EA.arr ‹_›).size]; kernel_rfl) | (rw [(NA.arr ‹_›).size]; kernel_rfl) | (rw [(qE ‹_› ‹_› ‹_› ‹_›).size]; kernel_rfl) | (rw [(qN ‹_› ‹_› ‹_› ‹_›).size]; kernel_rfl) | (rw [(PtN.arr ‹_›).size]; kernel_rfl) | (rw [(PtV.arr ‹_›).size]; kernel_rfl) | (rw [(QtN.arr ‹_›).size]; kernel_rfl))) rfl ?_
      exact ⟨_, by assumption, rfl, HS.out.below⟩
    · refine wpS_call rfl rfl ?_; intro K hK; refine wp_loadP rfl rfl HS.out (.tail _ (.head _)) (.all (by (first | exact EA.arr ‹_› | exact NA.arr ‹_› | exact arr_zE | exact arr_zN | exact arr_zP | exact arr_zQ | exact PtN.arr ‹_› | exact PtV.arr ‹_› | exact QtN.arr ‹_› | exact qE ‹_› ‹_› ‹_› ‹_› | exact qN ‹_› ‹_› ‹_› ‹_›))) rowP ?_; refine hK _ _ (fromT_mk HX.out ?_); (try simp only [Act.put, nq1, nq2, nq3, nq4, nq5, nq6])
      refine wpS_call rfl rfl ?_; intro K hK; refine wp_call rfl enWh rfl (wholeP _ (by assumption)) ?_; rintro e wy ⟨z, hz, rfl, hb⟩; refine ⟨_, rfl, ?_⟩; have HS := hide (HS.out.call hb); have HX := hide (HX.out.trans (hb.mono HX.out.size)); refine hK _ _ (fromT_mk HX.out ?_); (try simp only [Act.put, nq1, nq2, nq3, nq4, nq5, nq6])
      refine wpS_call rfl rfl ?_; intro K hK; refine wp_call rfl enWh rfl (wholeP _ (by assumption)) ?_; rintro e wy ⟨z, hz, rfl, hb⟩; refine ⟨_, rfl, ?_⟩; have HS := hide (HS.out.call hb); have HX := hide (HX.out.trans (hb.mono HX.out.size)); refine hK _ _ (fromT_mk HX.out ?_); (try simp only [Act.put, nq1, nq2, nq3, nq4, nq5, nq6])
      refine wpS_late rfl rfl ?_; intro K hK; refine wp_storeR rfl rfl rfl HS.out rowP (.tail (.tail (.head))) (by (first | exact EA.arr ‹_› | exact NA.arr ‹_› | exact arr_zE | exact arr_zN | exact arr_zP | exact arr_zQ | exact PtN.arr ‹_› | exact PtV.arr ‹_› | exact QtN.arr ‹_› | exact qE ‹_› ‹_› ‹_› ‹_› | exact qN ‹_› ‹_› ‹_› ‹_›)) (by (first | exact EA.arr ‹_› | exact NA.arr ‹_› | exact arr_zE | exact arr_zN | exact arr_zP | exact arr_zQ | exact PtN.arr ‹_› | exact PtV.arr ‹_› | exact QtN.arr ‹_› | exact qE ‹_› ‹_› ‹_› ‹_› | exact qN ‹_› ‹_› ‹_› ‹_›)) ?_; intro wz hS9; have HS := hide hS9; clear hS9; refine hK _ _ ?_; (try simp only [Act.put, nq1, nq2, nq3, nq4, nq5, nq6])
      refine wpS_any rfl rfl ?_; intro K hK; refine wp_storeR rfl rfl rfl HS.out rowP (.tail (.head)) (by (first | exact EA.arr ‹_› | exact NA.arr ‹_› | exact arr_zE | exact arr_zN | exact arr_zP | exact arr_zQ | exact PtN.arr ‹_› | exact PtV.arr ‹_› | exact QtN.arr ‹_› | exact qE ‹_› ‹_› ‹_› ‹_› | exact qN ‹_› ‹_› ‹_› ‹_›)) (by (first | exact EA.arr ‹_› | exact NA.arr ‹_› | exact arr_zE | exact arr_zN | exact arr_zP | exact arr_zQ | exact PtN.arr ‹_› | exact PtV.arr ‹_› | exact QtN.arr ‹_› | exact qE ‹_› ‹_› ‹_› ‹_› | exact qN ‹_› ‹_› ‹_› ‹_›)) ?_; intro wz hS9; have HS := hide hS9; clear hS9; refine hK _ _ ?_; (try simp only [Act.put, nq1, nq2, nq3, nq4, nq5, nq6])
      refine wpS_nil ?_
      go_wp2_with fail
      have HS := hide HS.out.drew
      refine wp_region_T [(0, 0), (1, 0), (2, 2), (3, 2), (4, 3)] (by kernel_rfl) (by kernel_rfl) (fun _ _ _ _ h => h) ?_
      refine wpT_loadP rfl rfl rfl rfl HS.out (.tail _ (.tail _ (.head _))) rowP (.all (by first | exact arr_zP | exact PtN.arr ‹_› | exact PtV.arr ‹_› | exact qE ‹_› ‹_› ‹_› ‹_›)) ?_; (try simp only [Act.put, nq1, nq2, nq3, nq4, nq5, nq6])
      refine wpT_loadP rfl rfl rfl rfl HS.out (.tail _ (.head _)) rowP (.all (by first | exact arr_zP | exact PtN.arr ‹_› | exact PtV.arr ‹_› | exact qE ‹_› ‹_› ‹_› ‹_›)) ?_; (try simp only [Act.put, nq1, nq2, nq3, nq4, nq5, nq6])
      refine wpT_callF rfl rfl rfl en29_ad rfl (numD _) ?_; rintro e wy ⟨z, hz, rfl, hb⟩; refine ⟨_, rfl, hb, ?_⟩; have HS := hide (HS.out.call hb); (try simp only [Act.put, nq1, nq2, nq3, nq4, nq5, nq6])
      refine wpT_callF rfl rfl rfl en31_ad rfl (plusP _ (by assumption) (by assumption) (by assumption)) ?_; rintro e wy ⟨z, hz, rfl, hb⟩; refine ⟨_, rfl, hb, ?_⟩; have HS := hide (HS.out.call hb); (try simp only [Act.put, nq1, nq2, nq3, nq4, nq5, nq6])
      refine wpT_late rfl rfl ?_; intro K hK; refine wp_storeR rfl rfl rfl HS.out rowP (.head) (by first | exact arr_zP | exact PtN.arr ‹_› | exact PtV.arr ‹_› | exact qE ‹_› ‹_› ‹_› ‹_›) (by first | exact arr_zP | exact PtN.arr ‹_› | exact PtV.arr ‹_› | exact qE ‹_› ‹_› ‹_› ‹_›) ?_; intro wz hS9; have HS := hide hS9; clear hS9; refine hK _ _ ?_; (try simp only [Act.put, nq1, nq2, nq3, nq4, nq5, nq6])
      refine wpT_nil ?_
      go_wp2_with fail
      refine bodyPost_ret (results_cell_row rfl _ _ _ _ _ _ _ rfl (HS.out.heapM (by (repeat first | exact .head _ | apply List.Mem.tail))) Tryd.underlying36 rfl (by first | (rw [(EA.arr ‹_›).size]; kernel_rfl) | (rw [(NA.arr ‹_›).size]; kernel_rfl) | (rw [(qE ‹_› ‹_› ‹_› ‹_›).size]; kernel_rfl) | (rw [(qN ‹_› ‹_› ‹_› ‹_›).size]; kernel_rfl) | (rw [(PtN.arr ‹_›).size]; kernel_rfl) | (rw [(PtV.arr ‹_›).size]; kernel_rfl) | (rw [(QtN.arr ‹_›).size]; kernel_rfl))) rfl ?_
      exact ⟨_, by assumption, rfl, HS.out.below⟩
  · refine wpS_call rfl rfl ?_; intro K hK; refine wp_loadP rfl rfl HS.out (.tail _ (.head _)) (.all (by (first | exact EA.arr ‹_› | exact NA.arr ‹_› | exact arr_zE | exact arr_zN | exact arr_zP | exact arr_zQ | exact PtN.arr ‹_› | exact PtV.arr ‹_› | exact QtN.arr ‹_› | exact qE ‹_› ‹_› ‹_› ‹_› | exact qN ‹_› ‹_› ‹_› ‹_›))) rowP ?_; refine hK _ _ (fromT_mk HX.out ?_); (try simp only [Act.put, nq1, nq2, nq3, nq4, nq5, nq6])
    refine wpS_call rfl rfl ?_; intro K hK; refine wp_loadP rfl rfl HS.out (.tail _ (.tail _ (.head _))) (.all (by (first | exact EA.arr ‹_› | exact NA.arr ‹_› | exact arr_zE | exact arr_zN | exact arr_zP | exact arr_zQ | exact PtN.arr ‹_› | exact PtV.arr ‹_› | exact QtN.arr ‹_› | exact qE ‹_› ‹_› ‹_› ‹_› | exact qN ‹_› ‹_› ‹_› ‹_›))) rowP ?_; refine hK _ _ (fromT_mk HX.out ?_); (try simp only [Act.put, nq1, nq2, nq3, nq4, nq5, nq6])
    refine wpS_call rfl rfl ?_; intro K hK; refine wp_call rfl enWh rfl (wholeP _ (by assumption)) ?_; rintro e wy ⟨z, hz, rfl, hb⟩; refine ⟨_, rfl, ?_⟩; have HS := hide (HS.out.call hb); have HX := hide (HX.out.trans (hb.mono HX.out.size)); refine hK _ _ (fromT_mk HX.out ?_); (try simp only [Act.put, nq1, nq2, nq3, nq4, nq5, nq6])
    refine wpS_call rfl rfl ?_; intro K hK; refine wp_call rfl enWh rfl (wholeP _ (by assumption)) ?_; rintro e wy ⟨z, hz, rfl, hb⟩; refine ⟨_, rfl, ?_⟩; have HS := hide (HS.out.call hb); have HX := hide (HX.out.trans (hb.mono HX.out.size)); refine hK _ _ (fromT_mk HX.out ?_); (try simp only [Act.put, nq1, nq2, nq3, nq4, nq5, nq6])
    refine wpS_late rfl rfl ?_; intro K hK; refine wp_storeR rfl rfl rfl HS.out rowP (.tail (.tail (.head))) (by (first | exact EA.arr ‹_› | exact NA.arr ‹_› | exact arr_zE | exact arr_zN | exact arr_zP | exact arr_zQ | exact PtN.arr ‹_› | exact PtV.arr ‹_› | exact QtN.arr ‹_› | exact qE ‹_› ‹_› ‹_› ‹_› | exact qN ‹_› ‹_› ‹_› ‹_›)) (by (first | exact EA.arr ‹_› | exact NA.arr ‹_› | exact arr_zE | exact arr_zN | exact arr_zP | exact arr_zQ | exact PtN.arr ‹_› | exact PtV.arr ‹_› | exact QtN.arr ‹_› | exact qE ‹_› ‹_› ‹_› ‹_› | exact qN ‹_› ‹_› ‹_› ‹_›)) ?_; intro wz hS9; have HS := hide hS9; clear hS9; refine hK _ _ ?_; (try simp only [Act.put, nq1, nq2, nq3, nq4, nq5, nq6])
    refine wpS_any rfl rfl ?_; intro K hK; refine wp_storeR rfl rfl rfl HS.out rowP (.tail (.head)) (by (first | exact EA.arr ‹_› | exact NA.arr ‹_› | exact arr_zE | exact arr_zN | exact arr_zP | exact arr_zQ | exact PtN.arr ‹_› | exact PtV.arr ‹_› | exact QtN.arr ‹_› | exact qE ‹_› ‹_› ‹_› ‹_› | exact qN ‹_› ‹_› ‹_› ‹_›)) (by (first | exact EA.arr ‹_› | exact NA.arr ‹_› | exact arr_zE | exact arr_zN | exact arr_zP | exact arr_zQ | exact PtN.arr ‹_› | exact PtV.arr ‹_› | exact QtN.arr ‹_› | exact qE ‹_› ‹_› ‹_› ‹_› | exact qN ‹_› ‹_› ‹_› ‹_›)) ?_; intro wz hS9; have HS := hide hS9; clear hS9; refine hK _ _ ?_; (try simp only [Act.put, nq1, nq2, nq3, nq4, nq5, nq6])
    refine wpS_nil ?_
    go_wp2_with fail
    have HS := hide HS.out.drew
    refine wp_region_T [(0, 0), (1, 0), (2, 2), (3, 2), (4, 3)] (by kernel_rfl) (by kernel_rfl) (fun _ _ _ _ h => h) ?_
    refine wpT_loadP rfl rfl rfl rfl HS.out (.tail _ (.tail _ (.head _))) rowP (.all (by first | exact arr_zP | exact PtN.arr ‹_› | exact PtV.arr ‹_› | exact qE ‹_› ‹_› ‹_› ‹_›)) ?_; (try simp only [Act.put, nq1, nq2, nq3, nq4, nq5, nq6])
    refine wpT_loadP rfl rfl rfl rfl HS.out (.tail _ (.head _)) rowP (.all (by first | exact arr_zP | exact PtN.arr ‹_› | exact PtV.arr ‹_› | exact qE ‹_› ‹_› ‹_› ‹_›)) ?_; (try simp only [Act.put, nq1, nq2, nq3, nq4, nq5, nq6])
    refine wpT_callF rfl rfl rfl en29_ad rfl (numD _) ?_; rintro e wy ⟨z, hz, rfl, hb⟩; refine ⟨_, rfl, hb, ?_⟩; have HS := hide (HS.out.call hb); (try simp only [Act.put, nq1, nq2, nq3, nq4, nq5, nq6])
    refine wpT_callF rfl rfl rfl en31_ad rfl (plusP _ (by assumption) (by assumption) (by assumption)) ?_; rintro e wy ⟨z, hz, rfl, hb⟩; refine ⟨_, rfl, hb, ?_⟩; have HS := hide (HS.out.call hb); (try simp only [Act.put, nq1, nq2, nq3, nq4, nq5, nq6])
    refine wpT_late rfl rfl ?_; intro K hK; refine wp_storeR rfl rfl rfl HS.out rowP (.head) (by first | exact arr_zP | exact PtN.arr ‹_› | exact PtV.arr ‹_› | exact qE ‹_› ‹_› ‹_› ‹_›) (by first | exact arr_zP | exact PtN.arr ‹_› | exact PtV.arr ‹_› | exact qE ‹_› ‹_› ‹_› ‹_›) ?_; intro wz hS9; have HS := hide hS9; clear hS9; refine hK _ _ ?_; (try simp only [Act.put, nq1, nq2, nq3, nq4, nq5, nq6])
    refine wpT_nil ?_
    go_wp2_with fail
    refine bodyPost_ret (results_cell_row rfl _ _ _ _ _ _ _ rfl (HS.out.heapM (by (repeat first | exact .head _ | apply List.Mem.tail))) Tryd.underlying36 rfl (by first | (rw [(EA.arr ‹_›).size]; kernel_rfl) | (rw [(NA.arr ‹_›).size]; kernel_rfl) | (rw [(qE ‹_› ‹_› ‹_› ‹_›).size]; kernel_rfl) | (rw [(qN ‹_› ‹_› ‹_› ‹_›).size]; kernel_rfl) | (rw [(PtN.arr ‹_›).size]; kernel_rfl) | (rw [(PtV.arr ‹_›).size]; kernel_rfl) | (rw [(QtN.arr ‹_›).size]; kernel_rfl))) rfl ?_
    exact ⟨_, by assumption, rfl, HS.out.below⟩
set_option maxRecDepth 100000 in
set_option maxHeartbeats 1600000 in
theorem negP {v : Array Value} {P : Ed} (w : World) (hv : PtV v P) : Calls Tryd.prog 19 #[.agg v] w (ResV w P.neg) := by
  have HS := hide (St.init w NoB)
  go_enter Tryd.func19, Tryd.ntmps19
  go_wp2_with (first | (go_at_call 29; (with_reducible refine (wholeP _ (by assumption)).mono ?_); rintro e wy ⟨v2, hv2, rfl, hb⟩; obtain ⟨⟨X, Y, Z, T⟩, a, b, c, d, rfl, h1, h2, h3, h4, h5⟩ := hv2.ex; have HS := hide (HS.out.call hb)) | (refine wl_loadP rfl rfl rfl HS.out (by (repeat first | exact .head _ | apply List.Mem.tail)) (by first | exact rowE | exact rowP | exact rowN | exact rowQ) (by (first | exact .q0 (EA.arr ‹_›) | exact .q1 (EA.arr ‹_›) (EA.arr ‹_›) | exact .q2 (EA.arr ‹_›) (EA.arr ‹_›) (EA.arr ‹_›) | exact .q3 (EA.arr ‹_›) (EA.arr ‹_›) (EA.arr ‹_›) (EA.arr ‹_›) | exact .q0 (NA.arr ‹_›) | exact .q1 (NA.arr ‹_›) (NA.arr ‹_›) | exact .q2 (NA.arr ‹_›) (NA.arr ‹_›) (NA.arr ‹_›) | exact .q3 (NA.arr ‹_›) (NA.arr ‹_›) (NA.arr ‹_›) (NA.arr ‹_›) | exact .all (by (first | exact EA.arr ‹_› | exact NA.arr ‹_› | exact arr_zE | exact arr_zN | exact arr_zP | exact arr_zQ | exact PtN.arr ‹_› | exact PtV.arr ‹_› | exact QtN.arr ‹_› | exact qE ‹_› ‹_› ‹_› ‹_› | exact qN ‹_› ‹_› ‹_› ‹_›)))) ?_; (try simp only [Act.put, nq1, nq2, nq3, nq4, nq5, nq6])) | (refine wl_storeR rfl rfl rfl rfl HS.out (by first | exact rowE | exact rowP | exact rowN | exact rowQ) (by (repeat first | exact .head | apply Upd.tail)) (by (first | exact EA.arr ‹_› | exact NA.arr ‹_› | exact arr_zE | exact arr_zN | exact arr_zP | exact arr_zQ | exact PtN.arr ‹_› | exact PtV.arr ‹_› | exact QtN.arr ‹_› | exact qE ‹_› ‹_› ‹_› ‹_› | exact qN ‹_› ‹_› ‹_› ‹_›)) (by (first | exact EA.arr ‹_› | exact NA.arr ‹_› | exact arr_zE | exact arr_zN | exact arr_zP | exact arr_zQ | exact PtN.arr ‹_› | exact PtV.arr ‹_› | exact QtN.arr ‹_› | exact qE ‹_› ‹_› ‹_› ‹_› | exact qN ‹_› ‹_› ‹_› ‹_›)) ?_; intro wz hS9; have HS := hide hS9; clear hS9; (try simp only [Act.put, nq1, nq2, nq3, nq4, nq5, nq6])) | (refine wl_allocR rfl rfl HS.out (by first | exact newE | exact newP | exact newN | exact newQ) ?_; intro gz wz hS9; have HS := hide hS9; clear hS9; (try simp only [Act.put, nq1, nq2, nq3, nq4, nq5, nq6])) | (refine wl_boxR rfl rfl rfl HS.out ?_; intro gz wz hS9; have HS := hide hS9; clear hS9; (try simp only [Act.put, nq1, nq2, nq3, nq4, nq5, nq6])))
  have HS := hide HS.out.drew
  refine wp_region_T [(0, 1), (1, 0), (3, 1), (4, 0), (5, 1), (6, 0), (7, 1), (8, 0), (2, 2), (9, 2), (10, 1), (11, 3)] (by kernel_rfl) (by kernel_rfl) (fun _ _ _ _ h => h) ?_
  (refine wpT_pure (v := ?_) rfl rfl ?_ ?_; rotate_left; (intro wx; go_simp; try go_bits) <;> (with_reducible rfl)); (try simp only [Act.put, nq1, nq2, nq3, nq4, nq5, nq6])
  refine wpT_loadP rfl rfl rfl rfl HS.out (.tail _ (.head _)) rowE (.q0 (EA.arr ‹_›)) ?_; (try simp only [Act.put, nq1, nq2, nq3, nq4, nq5, nq6])
  (refine wpT_pure (v := ?_) rfl rfl ?_ ?_; rotate_left; (intro wx; go_simp; try go_bits) <;> (with_reducible rfl)); (try simp only [Act.put, nq1, nq2, nq3, nq4, nq5, nq6])
  refine wpT_loadP rfl rfl rfl rfl HS.out (.tail _ (.head _)) rowE (.q1 (EA.arr ‹_›) (EA.arr ‹_›)) ?_; (try simp only [Act.put, nq1, nq2, nq3, nq4, nq5, nq6])
  (refine wpT_pure (v := ?_) rfl rfl ?_ ?_; rotate_left; (intro wx; go_simp; try go_bits) <;> (with_reducible rfl)); (try simp only [Act.put, nq1, nq2, nq3, nq4, nq5, nq6])
  refine wpT_loadP rfl rfl rfl rfl HS.out (.tail _ (.head _)) rowE (.q2 (EA.arr ‹_›) (EA.arr ‹_›) (EA.arr ‹_›)) ?_; (try simp only [Act.put, nq1, nq2, nq3, nq4, nq5, nq6])
  (refine wpT_pure (v := ?_) rfl rfl ?_ ?_; rotate_left; (intro wx; go_simp; try go_bits) <;> (with_reducible rfl)); (try simp only [Act.put, nq1, nq2, nq3, nq4, nq5, nq6])
  refine wpT_loadP rfl rfl rfl rfl HS.out (.tail _ (.head _)) rowE (.q3 (EA.arr ‹_›) (EA.arr ‹_›) (EA.arr ‹_›) (EA.arr ‹_›)) ?_; (try simp only [Act.put, nq1, nq2, nq3, nq4, nq5, nq6])
  refine wpT_callF rfl rfl rfl en45_ng rfl (negA _ ‹_›) ?_; rintro e wy ⟨z, hz, rfl, hb⟩; refine ⟨_, rfl, hb, ?_⟩; have HS := hide (HS.out.call hb); (try simp only [Act.put, nq1, nq2, nq3, nq4, nq5, nq6])
  refine wpT_callF rfl rfl rfl en45_ng rfl (negA _ ‹_›) ?_; rintro e wy ⟨z, hz, rfl, hb⟩; refine ⟨_, rfl, hb, ?_⟩; have HS := hide (HS.out.call hb); (try simp only [Act.put, nq1, nq2, nq3, nq4, nq5, nq6])
  refine wpT_pure rfl rfl (fun x => run_build4 rfl rfl rfl rfl rfl buildP (exE ‹_›) (exE ‹_›) (exE ‹_›) (exE ‹_›) x) ?_; (try simp only [Act.put, nq1, nq2, nq3, nq4, nq5, nq6])
  refine wpT_late rfl rfl ?_; intro K hK; refine wp_storeR rfl rfl rfl HS.out rowP (.head) (by first | exact arr_zP | exact PtN.arr ‹_› | exact PtV.arr ‹_› | exact qE ‹_› ‹_› ‹_› ‹_›) (by first | exact arr_zP | exact PtN.arr ‹_› | exact PtV.arr ‹_› | exact qE ‹_› ‹_› ‹_› ‹_›) ?_; intro wz hS9; have HS := hide hS9; clear hS9; refine hK _ _ ?_; (try simp only [Act.put, nq1, nq2, nq3, nq4, nq5, nq6])
  refine wpT_nil ?_
  go_wp2_with fail
  refine bodyPost_ret (results_cell_row rfl _ _ _ _ _ _ _ rfl (HS.out.heapM (by (repeat first | exact .head _ | apply List.Mem.tail))) Tryd.underlying36 rfl (by first | (rw [(EA.arr ‹_›).size]; kernel_rfl) | (rw [(NA.arr ‹_›).size]; kernel_rfl) | (rw [(qE ‹_› ‹_› ‹_› ‹_›).size]; kernel_rfl) | (rw [(qN ‹_› ‹_› ‹_› ‹_›).size]; kernel_rfl) | (rw [(PtN.arr ‹_›).size]; kernel_rfl) | (rw [(PtV.arr ‹_›).size]; kernel_rfl) | (rw [(QtN.arr ‹_›).size]; kernel_rfl))) rfl ?_
  exact ⟨_, ⟨⟨-X, Y, Z, -T⟩, _, _, _, _, rfl, by assumption, h2, h3, by assumption, rp_neg h5⟩, rfl, HS.out.below⟩
end Go.Proofs.YtkelegjppnfoaaaDoor

/-
  Layer 4: the code's multiples of a point.
-/
namespace Go.Proofs.YtkelegjppnfoaaaDoor
open Go.RowKit
set_option linter.unusedSimpArgs false

/-- Bit number i. -/
theorem bval_bit (l : List UInt8) {q r : Nat} {c : UInt8} (hc : l[q]? = some c) (hr : r < 8) : c.toNat / 2 ^ r % 2 = bval l / 2 ^ (8 * q + r) % 2 := by
  have hq := (List.getElem?_eq_some_iff.1 hc).1
  have h1 : bval l = bval (l.take q) + 256 ^ q * (c.toNat + 256 * bval (l.drop (q + 1))) := by
    have e := bval_append (l.take q) (l.drop q)
    rw [List.take_append_drop, List.length_take, Nat.min_eq_left (by omega)] at e
    rw [e, List.drop_eq_getElem_cons hq]
    rw [List.getElem?_eq_getElem hq] at hc
    injection hc with hc
    rw [hc, bval]
  have h2 := bval_lt (l.take q)
  rw [List.length_take, Nat.min_eq_left (by omega)] at h2
  have hp : (2 : Nat) ^ (8 * q + r) = 256 ^ q * 2 ^ r := by rw [Nat.pow_add, Nat.pow_mul]
  rw [hp, ← Nat.div_div_eq_div_mul, h1, Nat.add_mul_div_left _ _ (Nat.pos_of_ne_zero (by omega)), Nat.div_eq_of_lt h2, Nat.zero_add]
  generalize bval (l.drop (q + 1)) = R
  generalize c.toNat = C
  match r, hr with
  | 0, _ => omega
  | 1, _ => omega
  | 2, _ => omega
  | 3, _ => omega
  | 4, _ => omega
  | 5, _ => omega
  | 6, _ => omega
  | 7, _ => omega
theorem u8_and1 (n : Nat) (h : n < 256) : bits .and .u8 (n : Int) 1 = ((n % 2 : Nat) : Int) := by
  have : ∀ m : Fin 256, bits .and .u8 (m.val : Int) 1 = ((m.val % 2 : Nat) : Int) := by decide +kernel
  exact this ⟨n, h⟩
theorem enPlusM (args : Array Value) (w : World) : (callFunc 30 args).run Tryd.prog w = .ok (.enter 30 args) w := by kernel_rfl
/-- How often: the number of the first 32 bytes. -/
def mulV (l : List UInt8) : Nat := bval (l.take 32)
set_option maxRecDepth 100000 in
set_option maxHeartbeats 6400000 in
theorem mulP_any {v : Array Value} {P : Ed} (A : Option Addr) (n c : Nat) (l : List UInt8) (w : World) (hv : PtV v P) (hl : l.length = n) (hn : n ≤ 1000) (hr : Rd w (.slice A n c) 1 n (bvs l)) :
    Calls Tryd.prog 13 #[.agg v, .slice A n c] w (ResV w (tmE P (mulV l))) := by
  obtain ⟨m, hm⟩ : ∃ m, m = min n 32 := ⟨_, rfl⟩
  have hmi : min (n : Int) 32 = (m : Int) := by omega
  have hmi2 : (if (n : Int) ≤ 32 then (n : Int) else 32) = (m : Int) := by split <;> omega
  have hmi3 : (if (32 : Int) < (n : Int) then (32 : Int) else (n : Int)) = (m : Int) := by split <;> omega
  have hm32 : m ≤ 32 := by omega
  have hmn : m ≤ n := by omega
  have HM := hide (show mulV l < 256 ^ m by
    unfold mulV
    have := bval_lt (l.take 32)
    rw [List.length_take, hl] at this
    rw [hm, Nat.min_comm]
    exact this)
  have HBIT := hide (fun (i k : Nat) (c : UInt8) (hc : l[i]? = some c) (hi : i < m) (hk : k < 8) => show c.toNat / 2 ^ k % 2 = mulV l / 2 ^ (8 * i + k) % 2 from by
    have h : (l.take 32)[i]? = some c := by rw [List.getElem?_take_of_lt (by omega)]; exact hc
    exact bval_bit (l.take 32) h hk)
  have HR := hide hr
  have HL := hide hl
  generalize mulV l = V at *
  have HS := hide (St.init w NoB)
  clear hr hl hm
  go_enter Tryd.func13, Tryd.ntmps13
  go_wp2_with (first | (go_at_call 29; (with_reducible refine (wholeP _ (by assumption)).mono ?_); rintro e wy ⟨z, hz, rfl, hb⟩; try have HS := hide (HS.out.call hb)) | (go_at_call 28; (with_reducible refine (numD _).mono ?_); rintro e wy ⟨z, hz, rfl, hb⟩; try have HS := hide (HS.out.call hb)) | (go_at_call 31; (with_reducible refine (zeroP _).mono ?_); rintro e wy ⟨z, hz, rfl, hb⟩; try have HS := hide (HS.out.call hb)) | (refine wl_loadP rfl rfl rfl HS.out (by (repeat first | exact .head _ | apply List.Mem.tail)) (by first | exact rowE | exact rowP | exact rowN | exact rowQ) (by (first | exact .q0 (EA.arr ‹_›) | exact .q1 (EA.arr ‹_›) (EA.arr ‹_›) | exact .q2 (EA.arr ‹_›) (EA.arr ‹_›) (EA.arr ‹_›) | exact .q3 (EA.arr ‹_›) (EA.arr ‹_›) (EA.arr ‹_›) (EA.arr ‹_›) | exact .q0 (NA.arr ‹_›) | exact .q1 (NA.arr ‹_›) (NA.arr ‹_›) | exact .q2 (NA.arr ‹_›) (NA.arr ‹_›) (NA.arr ‹_›) | exact .q3 (NA.arr ‹_›) (NA.arr ‹_›) (NA.arr ‹_›) (NA.arr ‹_›) | exact .all (by (first | exact EA.arr ‹_› | exact NA.arr ‹_› | exact arr_zE | exact arr_zN | exact arr_zP | exact arr_zQ | exact PtN.arr ‹_› | exact PtV.arr ‹_› | exact QtN.arr ‹_› | exact qE ‹_› ‹_› ‹_› ‹_› | exact qN ‹_› ‹_› ‹_› ‹_›)))) ?_; (try simp only [Act.put, nq1, nq2, nq3, nq4, nq5, nq6])) | (refine wl_storeR rfl rfl rfl rfl HS.out (by first | exact rowE | exact rowP | exact rowN | exact rowQ) (by (repeat first | exact .head | apply Upd.tail)) (by (first | exact EA.arr ‹_› | exact NA.arr ‹_› | exact arr_zE | exact arr_zN | exact arr_zP | exact arr_zQ | exact PtN.arr ‹_› | exact PtV.arr ‹_› | exact QtN.arr ‹_› | exact qE ‹_› ‹_› ‹_› ‹_› | exact qN ‹_› ‹_› ‹_› ‹_›)) (by (first | exact EA.arr ‹_› | exact NA.arr ‹_› | exact arr_zE | exact arr_zN | exact arr_zP | exact arr_zQ | exact PtN.arr ‹_› | exact PtV.arr ‹_› | exact QtN.arr ‹_› | exact qE ‹_› ‹_› ‹_› ‹_› | exact qN ‹_› ‹_› ‹_› ‹_›)) ?_; intro wz hS9; have HS := hide hS9; clear hS9; (try simp only [Act.put, nq1, nq2, nq3, nq4, nq5, nq6])) | (refine wl_allocR rfl rfl HS.out (by first | exact newE | exact newP | exact newN | exact newQ) ?_; intro gz wz hS9; have HS := hide hS9; clear hS9; (try simp only [Act.put, nq1, nq2, nq3, nq4, nq5, nq6])) | (refine wl_boxR rfl rfl rfl HS.out ?_; intro gz wz hS9; have HS := hide hS9; clear hS9; (try simp only [Act.put, nq1, nq2, nq3, nq4, nq5, nq6])))
  rename_i HSa gP wa HSb gR wb HSc wc uP huP hbP HSd wd HSe we uD huD hbD HSf gD wf HSg wg HSh HSi wh HSj K1 a1
  clear HSa HSb HSc hbP HSd HSe hbD HSf HSg HSh HSi HSj hb
  go_loopw [8] (fun iv wr => ∃ (j : Nat) (u : Array Value), j ≤ m ∧ iv = .int .i64 ((j : Int) - 1) ∧ Hid (PtN u (tmE P (V / 2 ^ (8 * j)))) ∧ Hid (St w NoB wr [.cells gz u 36, .cells gD uD 34, .cells gR zP 36, .cells gP uP 36])) (fun iv _ => (1 + intOf iv).toNat)
  case atStart =>
    refine ⟨m, z, by omega, rfl, hide ?_, HS⟩
    have h := HM.out
    rw [show (256 : Nat) ^ m = 2 ^ (8 * m) from by rw [Nat.pow_mul]] at h
    rw [Nat.div_eq_of_lt h]
    exact hz
  case round =>
    clear HS hz
    obtain ⟨j, u, hj, rfl, HU, HS⟩ := hrel
    cases j with
    | zero =>
      have e0 : ((0 : Nat) : Int) - 1 = -1 := by omega
      simp only [e0]
      have hu := HU.out
      go_wp2_with (first | (refine wl_loadP rfl rfl rfl HS.out (by (repeat first | exact .head _ | apply List.Mem.tail)) (by first | exact rowE | exact rowP | exact rowN | exact rowQ) (by (first | exact .q0 (EA.arr ‹_›) | exact .q1 (EA.arr ‹_›) (EA.arr ‹_›) | exact .q2 (EA.arr ‹_›) (EA.arr ‹_›) (EA.arr ‹_›) | exact .q3 (EA.arr ‹_›) (EA.arr ‹_›) (EA.arr ‹_›) (EA.arr ‹_›) | exact .q0 (NA.arr ‹_›) | exact .q1 (NA.arr ‹_›) (NA.arr ‹_›) | exact .q2 (NA.arr ‹_›) (NA.arr ‹_›) (NA.arr ‹_›) | exact .q3 (NA.arr ‹_›) (NA.arr ‹_›) (NA.arr ‹_›) (NA.arr ‹_›) | exact .all (by (first | exact EA.arr ‹_› | exact NA.arr ‹_› | exact arr_zE | exact arr_zN | exact arr_zP | exact arr_zQ | exact PtN.arr ‹_› | exact PtV.arr ‹_› | exact QtN.arr ‹_› | exact qE ‹_› ‹_› ‹_› ‹_› | exact qN ‹_› ‹_› ‹_› ‹_›)))) ?_; (try simp only [Act.put, nq1, nq2, nq3, nq4, nq5, nq6])) | (refine wl_storeR rfl rfl rfl rfl HS.out (by first | exact rowE | exact rowP | exact rowN | exact rowQ) (by (repeat first | exact .head | apply Upd.tail)) (by (first | exact EA.arr ‹_› | exact NA.arr ‹_› | exact arr_zE | exact arr_zN | exact arr_zP | exact arr_zQ | exact PtN.arr ‹_› | exact PtV.arr ‹_› | exact QtN.arr ‹_› | exact qE ‹_› ‹_› ‹_› ‹_› | exact qN ‹_› ‹_› ‹_› ‹_›)) (by (first | exact EA.arr ‹_› | exact NA.arr ‹_› | exact arr_zE | exact arr_zN | exact arr_zP | exact arr_zQ | exact PtN.arr ‹_› | exact PtV.arr ‹_› | exact QtN.arr ‹_› | exact qE ‹_› ‹_› ‹_› ‹_› | exact qN ‹_› ‹_› ‹_› ‹_›)) ?_; intro wz hS9; have HS := hide hS9; clear hS9; (try simp only [Act.put, nq1, nq2, nq3, nq4, nq5, nq6])) | (refine wl_allocR rfl rfl HS.out (by first | exact newE | exact newP | exact newN | exact newQ) ?_; intro gz wz hS9; have HS := hide hS9; clear hS9; (try simp only [Act.put, nq1, nq2, nq3, nq4, nq5, nq6])) | (refine wl_boxR rfl rfl rfl HS.out ?_; intro gz wz hS9; have HS := hide hS9; clear hS9; (try simp only [Act.put, nq1, nq2, nq3, nq4, nq5, nq6])))
      refine bodyPost_ret (results_cell_row rfl _ _ _ _ _ _ _ rfl (HS.out.heapM (by (repeat first | exact .head _ | apply List.Mem.tail))) Tryd.underlying36 rfl (by first | (rw [(EA.arr ‹_›).size]; kernel_rfl) | (rw [(NA.arr ‹_›).size]; kernel_rfl) | (rw [(qE ‹_› ‹_› ‹_› ‹_›).size]; kernel_rfl) | (rw [(qN ‹_› ‹_› ‹_› ‹_›).size]; kernel_rfl) | (rw [(PtN.arr ‹_›).size]; kernel_rfl) | (rw [(PtV.arr ‹_›).size]; kernel_rfl) | (rw [(QtN.arr ‹_›).size]; kernel_rfl))) rfl ?_
      rw [Nat.mul_zero, Nat.pow_zero, Nat.div_one] at hu
      exact ⟨_, hu, rfl, HS.out.below⟩
    | succ j =>
      have e1 : (((j + 1 : Nat) : Int) - 1) = (j : Int) := by omega
      simp only [e1]
      have di : decide ((0 : Int) ≤ (j : Int)) = true := by simp
      have jn : (j : Int) < (n : Int) := by omega
      have j32 : (j : Int) < 32 := by omega
      obtain ⟨cb, hxb⟩ : ∃ cb, l[j]? = some cb := ⟨l[j]'(by have := HL.out; omega), List.getElem?_eq_getElem _⟩
      obtain ⟨b, o, rfl, hcb⟩ := rd_at' HR.out (bvs_get hxb)
      have hbl := World.block_lt_of_cell? _ _ hcb
      obtain ⟨ch, hch⟩ : ∃ c : Nat, c = cb.toNat := ⟨_, rfl⟩
      have HBB := hide (fun k hk => HBIT.out j k cb hxb (by omega) hk)
      have hc8 : ch < 256 := by rw [hch]; exact UInt8.toNat_lt _
      rw [← hch] at hcb HBB
      have HB := hide (fun W (h : Below w.heap.size w W) => (h.cell (p := ⟨b, o + j, none⟩) hbl).trans hcb)
      have HJ := hide hj
      clear hxb hch hcb hbl hj e1
      go_wp2_with fail
      go_loopw [9] (fun kv wr => ∃ (q : Nat) (u : Array Value), q ≤ 8 ∧ kv = .int .i64 ((q : Int) - 1) ∧ Hid (PtN u (tmE P (V / 2 ^ (8 * j + q)))) ∧ Hid (St w NoB wr [.cells gz u 36, .cells gD uD 34, .cells gR zP 36, .cells gP uP 36])) (fun kv _ => (1 + intOf kv).toNat)
      case atStart => exact ⟨8, u, by omega, by first | rfl | go_num, HU, HS⟩
      case round =>
        clear HS HU
        obtain ⟨q, u2, hq, rfl, HU, HS⟩ := hrel
        cases q with
        | zero =>
          have e0 : ((0 : Nat) : Int) - 1 = -1 := by omega
          simp only [e0]
          go_wp2_with fail
          go_roundw
          case rel => exact ⟨j, u2, by have := HJ.out; omega, by first | rfl | go_num, HU, HS⟩
          case measure => (simp [intOf]) <;> omega
        | succ r =>
          have e1 : (((r + 1 : Nat) : Int) - 1) = (r : Int) := by omega
          simp only [e1]
          have dr : decide ((0 : Int) ≤ (r : Int)) = true := by simp
          have r8 : (r : Int) < 8 := by omega
          obtain ⟨bt, hbt⟩ : ∃ t, t = ch / 2 ^ r % 2 := ⟨_, rfl⟩
          obtain ⟨cs, hcs⟩ : ∃ t, t = ch / 2 ^ r := ⟨_, rfl⟩
          have s1 : (ch : Int) / 2 ^ r = (cs : Int) := by rw [hcs, Int.natCast_ediv, Int.natCast_pow]; rfl
          have cs8' : cs < 256 := by have := Nat.div_le_self ch (2 ^ r); omega
          have cs8 : (cs : Int) < 256 := by omega
          have s2 : bits .and .u8 (cs : Int) 1 = (bt : Int) := by rw [u8_and1 _ cs8', hbt, ← hcs]
          have hbit := HBB.out r (by omega)
          rw [← hbt] at hbit
          have hu := HU.out
          have HSTEP := hide (tmE_bit P V (8 * j + r))
          rw [← hbit] at HSTEP
          clear hbt hcs hbit e1 cs8'
          have HR9 := hide hq
          by_cases hb1 : bt = 1
          · subst hb1
            rw [if_pos rfl] at HSTEP
            go_wp2_with (first | (go_at_call 30; (with_reducible refine (plusP _ hu2 huP huD).mono ?_); rintro e wy ⟨z, hu3, rfl, hb⟩; have HS := hide (HS.out.call hb); clear hb) | (go_at_call 30; (with_reducible refine (plusP _ hu hu huD).mono ?_); rintro e wy ⟨z, hu2, rfl, hb⟩; have HS := hide (HS.out.call hb); clear hb) | (refine wl_storeR rfl rfl rfl rfl HS.out rowP .head (PtN.arr hu2) (PtN.arr hu3) ?_; intro wz hS9; have HS := hide hS9; have hq := HB.out _ hS9.below; clear hS9; (try simp only [Act.put, nq1, nq2, nq3, nq4, nq5, nq6])) | (refine wl_storeR rfl rfl rfl rfl HS.out rowP .head (PtN.arr hu) (PtN.arr hu2) ?_; intro wz hS9; have HS := hide hS9; have hq := HB.out _ hS9.below; clear hS9; (try simp only [Act.put, nq1, nq2, nq3, nq4, nq5, nq6])) | (refine wl_loadP rfl rfl rfl HS.out (.tail _ (.tail _ (.tail _ (.head _)))) rowP (.all (PtN.arr huP)) ?_; (try simp only [Act.put, nq1, nq2, nq3, nq4, nq5, nq6])) | (refine wl_loadP rfl rfl rfl HS.out (.head _) rowP (.all (PtN.arr hu2)) ?_; (try simp only [Act.put, nq1, nq2, nq3, nq4, nq5, nq6])) | (refine wl_loadP rfl rfl rfl HS.out (.head _) rowP (.all (PtN.arr hu)) ?_; (try simp only [Act.put, nq1, nq2, nq3, nq4, nq5, nq6])) | (refine wl_loadP rfl rfl rfl HS.out (.tail _ (.head _)) rowE (.all huD.arr) ?_; (try simp only [Act.put, nq1, nq2, nq3, nq4, nq5, nq6])))
            go_roundw
            case rel => exact ⟨r, _, by have := HR9.out; omega, by first | rfl | go_num, hide (by rw [HSTEP.out]; assumption), HS⟩
            case measure => (simp [intOf]) <;> omega
          · have b0 : (((bt : Nat) : Int) == 1) = false := by simp; omega
            have b0' : (bt == 1) = false := by simp; omega
            have b0d : decide (((bt : Nat) : Int) = 1) = false := by simp; omega
            rw [if_neg hb1] at HSTEP
            clear hb1
            go_wp2_with (first | (go_at_call 30; (with_reducible refine (plusP _ hu hu huD).mono ?_); rintro e wy ⟨z, hu2, rfl, hb⟩; have HS := hide (HS.out.call hb); clear hb) | (refine wl_storeR rfl rfl rfl rfl HS.out rowP .head (PtN.arr hu) (PtN.arr hu2) ?_; intro wz hS9; have HS := hide hS9; have hq := HB.out _ hS9.below; clear hS9; (try simp only [Act.put, nq1, nq2, nq3, nq4, nq5, nq6])) | (refine wl_loadP rfl rfl rfl HS.out (.head _) rowP (.all (PtN.arr hu)) ?_; (try simp only [Act.put, nq1, nq2, nq3, nq4, nq5, nq6])) | (refine wl_loadP rfl rfl rfl HS.out (.tail _ (.head _)) rowE (.all huD.arr) ?_; (try simp only [Act.put, nq1, nq2, nq3, nq4, nq5, nq6])))
            go_roundw
            case rel => exact ⟨r, _, by have := HR9.out; omega, by first | rfl | go_num, hide (by rw [HSTEP.out]; assumption), HS⟩
            case measure => (simp [intOf]) <;> omega
end Go.Proofs.YtkelegjppnfoaaaDoor

/-
  Layer 4: the code's bytes of a point; are two the same; is eight times a point nothing.
-/
namespace Go.Proofs.YtkelegjppnfoaaaDoor
open Go.RowKit
set_option linter.unusedSimpArgs false

theorem u8_or128 (n : Nat) (h : n < 128) : bits .or .u8 (n : Int) 128 = ((n + 128 : Nat) : Int) := by
  have : ∀ m : Fin 128, bits .or .u8 (m.val : Int) 128 = ((m.val + 128 : Nat) : Int) := by decide +kernel
  exact this ⟨n, h⟩
theorem list_top {l : List UInt8} {r : Nat} (hl : l.length = 31) (x : UInt8) : (l ++ [UInt8.ofNat r])[31]? = some (UInt8.ofNat r) ∧ (l ++ [UInt8.ofNat r]).set 31 x = l ++ [x] := by
  constructor
  · rw [List.getElem?_append_right (by omega), hl]; rfl
  · rw [List.set_append_right _ _ (by omega), hl]; rfl
set_option maxRecDepth 100000 in
set_option maxHeartbeats 1600000 in
theorem bytesP {v : Array Value} {P : Ed} (w : World) (hv : PtV v P) : Calls Tryd.prog 14 #[.agg v] w (ResB 5 w (packL P)) := by
  have HS := hide (St.init w NoB)
  obtain ⟨l, r, hl31, hr128, e1, e2⟩ := top_bit P.y.val (Nat.lt_trans P.y.isLt pq_255)
  have HE1 := hide e1
  have HE2 := hide e2
  have HL31 := hide hl31
  have hpk : packL P = if P.x.val % 2 = 1 then l ++ [UInt8.ofNat (r + 128)] else l ++ [UInt8.ofNat r] := by
    unfold packL packN
    split
    · exact e2
    · rw [Nat.add_zero]; exact e1
  have HPK := hide hpk
  have hlen : (l ++ [UInt8.ofNat r]).length = 32 := by rw [List.length_append, hl31]; rfl
  have HLEN := hide hlen
  clear e1 e2 hpk hl31 hlen
  go_enter Tryd.func14, Tryd.ntmps14
  go_upto_region 4 with (first
    | (go_at_call 29; (with_reducible refine (wholeP _ (by assumption)).mono ?_); rintro e wy ⟨v2, hv2, rfl, hb⟩; obtain ⟨⟨X, Y, Z, T⟩, a, b, c, d, rfl, h1, h2, h3, h4, h5⟩ := hv2.ex; have HS := hide (HS.out.call hb))
    | (go_at_call 32; (with_reducible refine (invA _ h3).mono ?_); rintro e wy ⟨zi, hzi, rfl, hb⟩; have HS := hide (HS.out.call hb))
    | (go_at_call 33; (with_reducible refine (mulA _ h2 hzi).mono ?_); rintro e wy ⟨zy, hzy, rfl, hb⟩; rw [rp_y h5] at hzy; have HS := hide (HS.out.call hb))
    | (go_at_call 34; (with_reducible refine (bytesA _ hzy).mono ?_); rintro e wy hRB; rw [HE1.out] at hRB; obtain ⟨B, dd, rfl, hb, ho⟩ := hRB; rw [HLEN.out] at ho ⊢; have HS := hide (HS.out.row hb ho); clear ho)
    | (refine wl_loadP rfl rfl rfl HS.out (by (repeat first | exact .head _ | apply List.Mem.tail)) (by first | exact rowE | exact rowP | exact rowN | exact rowQ) (by (first | exact .q0 (EA.arr ‹_›) | exact .q1 (EA.arr ‹_›) (EA.arr ‹_›) | exact .q2 (EA.arr ‹_›) (EA.arr ‹_›) (EA.arr ‹_›) | exact .q3 (EA.arr ‹_›) (EA.arr ‹_›) (EA.arr ‹_›) (EA.arr ‹_›) | exact .q0 (NA.arr ‹_›) | exact .q1 (NA.arr ‹_›) (NA.arr ‹_›) | exact .q2 (NA.arr ‹_›) (NA.arr ‹_›) (NA.arr ‹_›) | exact .q3 (NA.arr ‹_›) (NA.arr ‹_›) (NA.arr ‹_›) (NA.arr ‹_›) | exact .all (by (first | exact EA.arr ‹_› | exact NA.arr ‹_› | exact arr_zE | exact arr_zN | exact arr_zP | exact arr_zQ | exact PtN.arr ‹_› | exact PtV.arr ‹_› | exact QtN.arr ‹_› | exact qE ‹_› ‹_› ‹_› ‹_› | exact qN ‹_› ‹_› ‹_› ‹_›)))) ?_; (try simp only [Act.put, nq1, nq2, nq3, nq4, nq5, nq6])) | (refine wl_storeR rfl rfl rfl rfl HS.out (by first | exact rowE | exact rowP | exact rowN | exact rowQ) (by (repeat first | exact .head | apply Upd.tail)) (by (first | exact EA.arr ‹_› | exact NA.arr ‹_› | exact arr_zE | exact arr_zN | exact arr_zP | exact arr_zQ | exact PtN.arr ‹_› | exact PtV.arr ‹_› | exact QtN.arr ‹_› | exact qE ‹_› ‹_› ‹_› ‹_› | exact qN ‹_› ‹_› ‹_› ‹_›)) (by (first | exact EA.arr ‹_› | exact NA.arr ‹_› | exact arr_zE | exact arr_zN | exact arr_zP | exact arr_zQ | exact PtN.arr ‹_› | exact PtV.arr ‹_› | exact QtN.arr ‹_› | exact qE ‹_› ‹_› ‹_› ‹_› | exact qN ‹_› ‹_› ‹_› ‹_›)) ?_; intro wz hS9; have HS := hide hS9; clear hS9; (try simp only [Act.put, nq1, nq2, nq3, nq4, nq5, nq6])) | (refine wl_allocR rfl rfl HS.out (by first | exact newE | exact newP | exact newN | exact newQ) ?_; intro gz wz hS9; have HS := hide hS9; clear hS9; (try simp only [Act.put, nq1, nq2, nq3, nq4, nq5, nq6])) | (refine wl_boxR rfl rfl rfl HS.out ?_; intro gz wz hS9; have HS := hide hS9; clear hS9; (try simp only [Act.put, nq1, nq2, nq3, nq4, nq5, nq6])))
  have gB : ((bvs (l ++ [UInt8.ofNat r]))[31]? = some (.int .u8 (r : Int))) := by
    rw [bvs_get (list_top HL31.out (UInt8.ofNat r)).1, UInt8.toNat_ofNat', Nat.mod_eq_of_lt (by omega)]
  have GB := hide gB
  have hor := u8_or128 r hr128
  have HR := hide hr128
  clear gB
  have hx31 := rp_x h5
  by_cases hodd : P.x.val % 2 = 1
  · go_wp2_with (first
      | (go_at_call 33; (with_reducible refine (mulA _ h1 hzi).mono ?_); rintro e wy ⟨zx, hzx, rfl, hb⟩; rw [hx31] at hzx; have HS := hide (HS.out.call hb))
      | (go_at_call 35; (with_reducible refine (oddA _ hzx).mono ?_); rintro e wy ⟨rfl, hb⟩; rw [decide_eq_true hodd]; have HS := hide (HS.out.call hb); obtain ⟨g, c1, hvv, _, _, hcs, hfr, _⟩ := HS.out.rowOpen 0 rfl (by omega); injection hvv with hvv1 _ hvv3; subst hvv1 hvv3; have k31 := hcs 31 _ GB.out; have f31 := hfr 31; have HS9 := hide HS.out; clear hcs hfr)
      | (refine wl_loadP rfl rfl rfl HS.out (by (repeat first | exact .head _ | apply List.Mem.tail)) (by first | exact rowE | exact rowP | exact rowN | exact rowQ) (by (first | exact .q0 (EA.arr ‹_›) | exact .q1 (EA.arr ‹_›) (EA.arr ‹_›) | exact .q2 (EA.arr ‹_›) (EA.arr ‹_›) (EA.arr ‹_›) | exact .q3 (EA.arr ‹_›) (EA.arr ‹_›) (EA.arr ‹_›) (EA.arr ‹_›) | exact .q0 (NA.arr ‹_›) | exact .q1 (NA.arr ‹_›) (NA.arr ‹_›) | exact .q2 (NA.arr ‹_›) (NA.arr ‹_›) (NA.arr ‹_›) | exact .q3 (NA.arr ‹_›) (NA.arr ‹_›) (NA.arr ‹_›) (NA.arr ‹_›) | exact .all (by (first | exact EA.arr ‹_› | exact NA.arr ‹_› | exact arr_zE | exact arr_zN | exact arr_zP | exact arr_zQ | exact PtN.arr ‹_› | exact PtV.arr ‹_› | exact QtN.arr ‹_› | exact qE ‹_› ‹_› ‹_› ‹_› | exact qN ‹_› ‹_› ‹_› ‹_›)))) ?_; (try simp only [Act.put, nq1, nq2, nq3, nq4, nq5, nq6])) | (refine wl_storeR rfl rfl rfl rfl HS.out (by first | exact rowE | exact rowP | exact rowN | exact rowQ) (by (repeat first | exact .head | apply Upd.tail)) (by (first | exact EA.arr ‹_› | exact NA.arr ‹_› | exact arr_zE | exact arr_zN | exact arr_zP | exact arr_zQ | exact PtN.arr ‹_› | exact PtV.arr ‹_› | exact QtN.arr ‹_› | exact qE ‹_› ‹_› ‹_› ‹_› | exact qN ‹_› ‹_› ‹_› ‹_›)) (by (first | exact EA.arr ‹_› | exact NA.arr ‹_› | exact arr_zE | exact arr_zN | exact arr_zP | exact arr_zQ | exact PtN.arr ‹_› | exact PtV.arr ‹_› | exact QtN.arr ‹_› | exact qE ‹_› ‹_› ‹_› ‹_› | exact qN ‹_› ‹_› ‹_› ‹_›)) ?_; intro wz hS9; have HS := hide hS9; clear hS9; (try simp only [Act.put, nq1, nq2, nq3, nq4, nq5, nq6])) | (refine wl_allocR rfl rfl HS.out (by first | exact newE | exact newP | exact newN | exact newQ) ?_; intro gz wz hS9; have HS := hide hS9; clear hS9; (try simp only [Act.put, nq1, nq2, nq3, nq4, nq5, nq6])) | (refine wl_boxR rfl rfl rfl HS.out ?_; intro gz wz hS9; have HS := hide hS9; clear hS9; (try simp only [Act.put, nq1, nq2, nq3, nq4, nq5, nq6])))
    go_ret
    have h9 := HS9.out.rowSet 0 rfl 31 (.int .u8 ((r + 128 : Nat) : Int)) (by omega)
    rw [bvs_set _ _ _ (by have := HR.out; omega), (list_top HL31.out _).2] at h9
    refine resB_of h9 0 rfl ?_
    rw [HPK.out, if_pos hodd]
  · go_wp2_with (first
      | (go_at_call 33; (with_reducible refine (mulA _ h1 hzi).mono ?_); rintro e wy ⟨zx, hzx, rfl, hb⟩; rw [hx31] at hzx; have HS := hide (HS.out.call hb))
      | (go_at_call 35; (with_reducible refine (oddA _ hzx).mono ?_); rintro e wy ⟨rfl, hb⟩; rw [decide_eq_false hodd]; have HS := hide (HS.out.call hb))
      | (refine wl_loadP rfl rfl rfl HS.out (by (repeat first | exact .head _ | apply List.Mem.tail)) (by first | exact rowE | exact rowP | exact rowN | exact rowQ) (by (first | exact .q0 (EA.arr ‹_›) | exact .q1 (EA.arr ‹_›) (EA.arr ‹_›) | exact .q2 (EA.arr ‹_›) (EA.arr ‹_›) (EA.arr ‹_›) | exact .q3 (EA.arr ‹_›) (EA.arr ‹_›) (EA.arr ‹_›) (EA.arr ‹_›) | exact .q0 (NA.arr ‹_›) | exact .q1 (NA.arr ‹_›) (NA.arr ‹_›) | exact .q2 (NA.arr ‹_›) (NA.arr ‹_›) (NA.arr ‹_›) | exact .q3 (NA.arr ‹_›) (NA.arr ‹_›) (NA.arr ‹_›) (NA.arr ‹_›) | exact .all (by (first | exact EA.arr ‹_› | exact NA.arr ‹_› | exact arr_zE | exact arr_zN | exact arr_zP | exact arr_zQ | exact PtN.arr ‹_› | exact PtV.arr ‹_› | exact QtN.arr ‹_› | exact qE ‹_› ‹_› ‹_› ‹_› | exact qN ‹_› ‹_› ‹_› ‹_›)))) ?_; (try simp only [Act.put, nq1, nq2, nq3, nq4, nq5, nq6])) | (refine wl_storeR rfl rfl rfl rfl HS.out (by first | exact rowE | exact rowP | exact rowN | exact rowQ) (by (repeat first | exact .head | apply Upd.tail)) (by (first | exact EA.arr ‹_› | exact NA.arr ‹_› | exact arr_zE | exact arr_zN | exact arr_zP | exact arr_zQ | exact PtN.arr ‹_› | exact PtV.arr ‹_› | exact QtN.arr ‹_› | exact qE ‹_› ‹_› ‹_› ‹_› | exact qN ‹_› ‹_› ‹_› ‹_›)) (by (first | exact EA.arr ‹_› | exact NA.arr ‹_› | exact arr_zE | exact arr_zN | exact arr_zP | exact arr_zQ | exact PtN.arr ‹_› | exact PtV.arr ‹_› | exact QtN.arr ‹_› | exact qE ‹_› ‹_› ‹_› ‹_› | exact qN ‹_› ‹_› ‹_› ‹_›)) ?_; intro wz hS9; have HS := hide hS9; clear hS9; (try simp only [Act.put, nq1, nq2, nq3, nq4, nq5, nq6])) | (refine wl_allocR rfl rfl HS.out (by first | exact newE | exact newP | exact newN | exact newQ) ?_; intro gz wz hS9; have HS := hide hS9; clear hS9; (try simp only [Act.put, nq1, nq2, nq3, nq4, nq5, nq6])) | (refine wl_boxR rfl rfl rfl HS.out ?_; intro gz wz hS9; have HS := hide hS9; clear hS9; (try simp only [Act.put, nq1, nq2, nq3, nq4, nq5, nq6])))
    go_ret
    refine resB_of HS.out 0 rfl ?_
    rw [HPK.out, if_neg hodd]
end Go.Proofs.YtkelegjppnfoaaaDoor

/-
  Layer 4: the code's Same and Small.
-/
namespace Go.Proofs.YtkelegjppnfoaaaDoor
open Go.RowKit
set_option linter.unusedSimpArgs false

theorem bytesP32 {v : Array Value} {P : Ed} (w : World) (hv : PtV v P) : Calls Tryd.prog 14 #[.agg v] w fun e w' => ∃ A c, e = .returned (.slice A 32 c) ∧ Below w.heap.size w w' ∧ w'.ownsRow w.heap.size 5 1 (.slice A 32 c) 32 (bvs (packL P)) :=
  (bytesP w hv).mono fun e w' h => by
    unfold ResB at h
    rw [packL_len] at h
    exact h
theorem enBytesP (args : Array Value) (w : World) : (callFunc 14 args).run Tryd.prog w = .ok (.enter 14 args) w := by kernel_rfl
theorem pack_dec (P Q : Ed) [Decidable (P = Q)] : decide (packL P = packL Q) = decide (P = Q) := by
  by_cases h : P = Q
  · rw [decide_eq_true h, decide_eq_true (by rw [h])]
  · rw [decide_eq_false h, decide_eq_false fun e => h (packL_inj e)]
end Go.Proofs.YtkelegjppnfoaaaDoor

/-
  Layer 4: the code's From.
-/
namespace Go.Proofs.YtkelegjppnfoaaaDoor
open Go.RowKit
set_option linter.unusedSimpArgs false

theorem tyB8 : RowTy Tryd.prog 22 5 1 1 := tyB
set_option maxRecDepth 100000 in
set_option maxHeartbeats 800000 in
theorem clone32 {A : Option Addr} {c : Nat} {l : List UInt8} (w : World) (hr : Rd w (.slice A 32 c) 1 32 (bvs l)) : Calls Tryd.prog 40 #[.slice A 32 c] w fun e w' => ∃ B d, e = .returned (.slice B 32 d) ∧ Below w.heap.size w w' ∧ w'.ownsRow w.heap.size 5 1 (.slice B 32 d) 32 (bvs l) := by
  cases A with
  | none =>
    obtain ⟨A', c', hv, _, h1, h2, h3, _⟩ := hr
    injection hv with hv1 hv2 hv3
    subst hv1
    have := h3 rfl
    omega
  | some a =>
    have hS1 : St w NoB (w.alloc (.cells #[] 5)) [.row (.slice (some ⟨w.heap.size, 0, none⟩) 0 0) 5 1 0 []] := (St.init w NoB).row ((Below.refl w.heap.size w).alloc (Nat.le_refl _) _) ⟨rfl, .inr ⟨w.heap.size, 0, #[], rfl, Nat.le_refl _, by show (w.heap.push _)[w.heap.size]? = _; simp, Nat.le_refl _, by decide, rfl, rfl⟩⟩
    have HS1 := hide hS1
    have HR1 := hide (hr.below ((Below.refl w.heap.size w).alloc (Nat.le_refl _) (.cells #[] 5)))
    clear hS1 hr
    have hnil : ∀ W, (binOp .eql 22 (.slice (some a) 32 c) (.slice none 0 0)).run Tryd.prog W = .ok (.bool false) W := fun W => by kernel_rfl
    go_enter Tryd.func40, Tryd.ntmps40
    go_wp2_with (at_builtin; refine wl_append rfl rfl tyB HS1.out 0 rfl rfl rfl HR1.out (one_bvs l) (by omega) (by decide) ?_; intro A' c' w' hS2; rw [Nat.zero_add, List.nil_append] at hS2; have HS2 := hide hS2; clear hS2)
    go_ret
    exact ⟨_, _, rfl, HS2.out.below, HS2.out.ownsRow 0 rfl⟩
theorem u8_and127 (n : Nat) (h : n < 256) : bits .and .u8 (n : Int) 127 = ((n % 128 : Nat) : Int) := by
  have : ∀ m : Fin 256, bits .and .u8 (m.val : Int) 127 = ((m.val % 128 : Nat) : Int) := by decide +kernel
  exact this ⟨n, h⟩
theorem zP_quad : zP = quad zE zE zE zE := rfl
theorem zP_pt : PtV zP .zero := ⟨⟨0, 0, 0, 0⟩, zE, zE, zE, zE, zP_quad, ea_zE, ea_zE, ea_zE, ea_zE, .inr ⟨rfl, rfl⟩⟩
def ResF (w : World) (o : Option Ed) (e : Ending) (w' : World) : Prop := ∃ v, PtV v (o.getD .zero) ∧ e = .returned (.tuple #[.agg v, .bool o.isSome]) ∧ Below w.heap.size w w'
set_option maxRecDepth 100000 in
set_option maxHeartbeats 1600000 in
theorem from_no {A : Option Addr} {n c : Nat} {l : List UInt8} (w : World) (hl : l.length = n) (hn : n ≠ 32) : Calls Tryd.prog 16 #[.slice A n c] w (ResF w (fromL l)) := by
  have hF : fromL l = none := by unfold fromL; rw [if_neg (by omega)]
  have q0 : ((n : Int) != 32) = true := by simp; omega
  have HS := hide (St.init w NoB)
  have hzpt := show PtV (#[.int .u64 0, .int .u64 0, .int .u64 0, .int .u64 0, .int .u64 0, .int .u64 0, .int .u64 0, .int .u64 0, .int .u64 0, .int .u64 0, .int .u64 0, .int .u64 0, .int .u64 0, .int .u64 0, .int .u64 0, .int .u64 0, .int .u64 0, .int .u64 0, .int .u64 0, .int .u64 0] : Array Value) .zero from zP_pt
  rw [hF]
  clear hF hl hn
  go_enter Tryd.func16, Tryd.ntmps16
  go_wp2_with (first | (refine wl_loadP rfl rfl rfl HS.out (by (repeat first | exact .head _ | apply List.Mem.tail)) (by first | exact rowE | exact rowP | exact rowN | exact rowQ) (by (first | exact .q0 (EA.arr ‹_›) | exact .q1 (EA.arr ‹_›) (EA.arr ‹_›) | exact .q2 (EA.arr ‹_›) (EA.arr ‹_›) (EA.arr ‹_›) | exact .q3 (EA.arr ‹_›) (EA.arr ‹_›) (EA.arr ‹_›) (EA.arr ‹_›) | exact .q0 (NA.arr ‹_›) | exact .q1 (NA.arr ‹_›) (NA.arr ‹_›) | exact .q2 (NA.arr ‹_›) (NA.arr ‹_›) (NA.arr ‹_›) | exact .q3 (NA.arr ‹_›) (NA.arr ‹_›) (NA.arr ‹_›) (NA.arr ‹_›) | exact .all (by (first | exact EA.arr ‹_› | exact NA.arr ‹_› | exact arr_zE | exact arr_zN | exact arr_zP | exact arr_zQ | exact PtN.arr ‹_› | exact PtV.arr ‹_› | exact QtN.arr ‹_› | exact qE ‹_› ‹_› ‹_› ‹_› | exact qN ‹_› ‹_› ‹_› ‹_›)))) ?_; (try simp only [Act.put, nq1, nq2, nq3, nq4, nq5, nq6])) | (refine wl_storeR rfl rfl rfl rfl HS.out (by first | exact rowE | exact rowP | exact rowN | exact rowQ) (by (repeat first | exact .head | apply Upd.tail)) (by (first | exact EA.arr ‹_› | exact NA.arr ‹_› | exact arr_zE | exact arr_zN | exact arr_zP | exact arr_zQ | exact PtN.arr ‹_› | exact PtV.arr ‹_› | exact QtN.arr ‹_› | exact qE ‹_› ‹_› ‹_› ‹_› | exact qN ‹_› ‹_› ‹_› ‹_›)) (by (first | exact EA.arr ‹_› | exact NA.arr ‹_› | exact arr_zE | exact arr_zN | exact arr_zP | exact arr_zQ | exact PtN.arr ‹_› | exact PtV.arr ‹_› | exact QtN.arr ‹_› | exact qE ‹_› ‹_› ‹_› ‹_› | exact qN ‹_› ‹_› ‹_› ‹_›)) ?_; intro wz hS9; have HS := hide hS9; clear hS9; (try simp only [Act.put, nq1, nq2, nq3, nq4, nq5, nq6])) | (refine wl_allocR rfl rfl HS.out (by first | exact newE | exact newP | exact newN | exact newQ) ?_; intro gz wz hS9; have HS := hide hS9; clear hS9; (try simp only [Act.put, nq1, nq2, nq3, nq4, nq5, nq6])) | (refine wl_boxR rfl rfl rfl HS.out ?_; intro gz wz hS9; have HS := hide hS9; clear hS9; (try simp only [Act.put, nq1, nq2, nq3, nq4, nq5, nq6])))
  refine bodyPost_ret (results_cell_tmp_row rfl _ _ _ _ _ _ _ rfl (HS.out.heapM (by (repeat first | exact .head _ | apply List.Mem.tail))) Tryd.underlying36 rfl (by first | (rw [(EA.arr ‹_›).size]; kernel_rfl) | (rw [(NA.arr ‹_›).size]; kernel_rfl) | (rw [(qE ‹_› ‹_› ‹_› ‹_›).size]; kernel_rfl) | (rw [(qN ‹_› ‹_› ‹_› ‹_›).size]; kernel_rfl) | (rw [(PtN.arr ‹_›).size]; kernel_rfl) | (rw [(PtV.arr ‹_›).size]; kernel_rfl) | (rw [(QtN.arr ‹_›).size]; kernel_rfl))) rfl ?_
  exact ⟨_, hzpt, rfl, HS.out.below⟩
theorem en29_fr (args : Array Value) (w : World) : (callFunc 28 args).run Tryd.prog w = .ok (.enter 28 args) w := by kernel_rfl
theorem en36_fr (args : Array Value) (w : World) : (callFunc 33 args).run Tryd.prog w = .ok (.enter 33 args) w := by kernel_rfl
theorem en48_fr (args : Array Value) (w : World) : (callFunc 44 args).run Tryd.prog w = .ok (.enter 44 args) w := by kernel_rfl
theorem en51_fr (args : Array Value) (w : World) : (callFunc 42 args).run Tryd.prog w = .ok (.enter 42 args) w := by kernel_rfl
theorem en52_fr (args : Array Value) (w : World) : (callFunc 43 args).run Tryd.prog w = .ok (.enter 43 args) w := by kernel_rfl
theorem en53_fr (args : Array Value) (w : World) : (callFunc 45 args).run Tryd.prog w = .ok (.enter 45 args) w := by kernel_rfl
set_option maxRecDepth 100000 in
set_option maxHeartbeats 6400000 in
theorem from_32 {A : Option Addr} {c : Nat} {l : List UInt8} (w : World) (hl : l.length = 32) (hr : Rd w (.slice A 32 c) 1 32 (bvs l)) : Calls Tryd.prog 16 #[.slice A 32 c] w (ResF w (fromL l)) := by
  have HS := hide (St.init w NoB)
  have hzpt := show PtV (#[.int .u64 0, .int .u64 0, .int .u64 0, .int .u64 0, .int .u64 0, .int .u64 0, .int .u64 0, .int .u64 0, .int .u64 0, .int .u64 0, .int .u64 0, .int .u64 0, .int .u64 0, .int .u64 0, .int .u64 0, .int .u64 0, .int .u64 0, .int .u64 0, .int .u64 0, .int .u64 0] : Array Value) .zero from zP_pt
  obtain ⟨cb, hxb⟩ : ∃ cb, l[31]? = some cb := ⟨l[31], List.getElem?_eq_getElem _⟩
  obtain ⟨b, o, rfl, hcb⟩ := rd_at' hr (bvs_get hxb)
  have hbl := World.block_lt_of_cell? _ _ hcb
  have gB := bvs_get hxb
  obtain ⟨ch, hch⟩ : ∃ c : Nat, c = cb.toNat := ⟨_, rfl⟩
  have hc8 : ch < 256 := by rw [hch]; exact UInt8.toNat_lt _
  have hlow : lowL l = l.set 31 (UInt8.ofNat (ch % 128)) := by unfold lowL; rw [List.getD_eq_getElem?_getD, hxb, hch]; rfl
  have htop : topB l = decide (128 ≤ ch) := by unfold topB; rw [List.getD_eq_getElem?_getD, hxb, hch]; rfl
  rw [← hch] at hcb gB
  have hand := u8_and127 ch hc8
  have hm : ch % 128 < 256 := by omega
  obtain ⟨cm, hcm⟩ : ∃ m, m = ch % 128 := ⟨_, rfl⟩
  rw [← hcm] at hand hm hlow
  clear hcm
  have HB := hide (fun W (h : Below w.heap.size w W) => (h.cell (p := ⟨b, o + 31, none⟩) hbl).trans hcb)
  have HR := hide hr
  have GB := hide gB
  have HLOW := hide hlow
  have HTOP := hide htop
  have HL := hide hl
  have HM := hide hm
  clear hxb hch hcb hbl gB hlow htop hr hl hm
  go_enter Tryd.func16, Tryd.ntmps16
  go_upto_region 5 with (first
    | (go_at_call 40; (with_reducible refine (clone32 _ (HR.out.below HS.out.below)).mono ?_); rintro e wy ⟨B, d, rfl, hb, ho⟩; have HS := hide (HS.out.row hb ho); obtain ⟨g, c1, hvv, _, _, hcs, hfr, _⟩ := HS.out.rowOpen 0 rfl (by omega); injection hvv with hvv1 _ hvv3; subst hvv1 hvv3; have k31 := hcs 31 _ GB.out; have f31 := hfr 31; have HS9 := hide HS.out; clear ho hcs hfr)
    | (refine wl_loadP rfl rfl rfl HS.out (by (repeat first | exact .head _ | apply List.Mem.tail)) (by first | exact rowE | exact rowP | exact rowN | exact rowQ) (by (first | exact .q0 (EA.arr ‹_›) | exact .q1 (EA.arr ‹_›) (EA.arr ‹_›) | exact .q2 (EA.arr ‹_›) (EA.arr ‹_›) (EA.arr ‹_›) | exact .q3 (EA.arr ‹_›) (EA.arr ‹_›) (EA.arr ‹_›) (EA.arr ‹_›) | exact .q0 (NA.arr ‹_›) | exact .q1 (NA.arr ‹_›) (NA.arr ‹_›) | exact .q2 (NA.arr ‹_›) (NA.arr ‹_›) (NA.arr ‹_›) | exact .q3 (NA.arr ‹_›) (NA.arr ‹_›) (NA.arr ‹_›) (NA.arr ‹_›) | exact .all (by (first | exact EA.arr ‹_› | exact NA.arr ‹_› | exact arr_zE | exact arr_zN | exact arr_zP | exact arr_zQ | exact PtN.arr ‹_› | exact PtV.arr ‹_› | exact QtN.arr ‹_› | exact qE ‹_› ‹_› ‹_› ‹_› | exact qN ‹_› ‹_› ‹_› ‹_›)))) ?_; (try simp only [Act.put, nq1, nq2, nq3, nq4, nq5, nq6])) | (refine wl_storeR rfl rfl rfl rfl HS.out (by first | exact rowE | exact rowP | exact rowN | exact rowQ) (by (repeat first | exact .head | apply Upd.tail)) (by (first | exact EA.arr ‹_› | exact NA.arr ‹_› | exact arr_zE | exact arr_zN | exact arr_zP | exact arr_zQ | exact PtN.arr ‹_› | exact PtV.arr ‹_› | exact QtN.arr ‹_› | exact qE ‹_› ‹_› ‹_› ‹_› | exact qN ‹_› ‹_› ‹_› ‹_›)) (by (first | exact EA.arr ‹_› | exact NA.arr ‹_› | exact arr_zE | exact arr_zN | exact arr_zP | exact arr_zQ | exact PtN.arr ‹_› | exact PtV.arr ‹_› | exact QtN.arr ‹_› | exact qE ‹_› ‹_› ‹_› ‹_› | exact qN ‹_› ‹_› ‹_› ‹_›)) ?_; intro wz hS9; have HS := hide hS9; clear hS9; (try simp only [Act.put, nq1, nq2, nq3, nq4, nq5, nq6])) | (refine wl_allocR rfl rfl HS.out (by first | exact newE | exact newP | exact newN | exact newQ) ?_; intro gz wz hS9; have HS := hide hS9; clear hS9; (try simp only [Act.put, nq1, nq2, nq3, nq4, nq5, nq6])) | (refine wl_boxR rfl rfl rfl HS.out ?_; intro gz wz hS9; have HS := hide hS9; clear hS9; (try simp only [Act.put, nq1, nq2, nq3, nq4, nq5, nq6])))
  have h9 := HS9.out.rowSet 0 rfl 31 (.int .u8 (cm : Int)) (by omega)
  simp only [List.set_cons_zero] at h9
  rw [bvs_set _ _ _ HM.out, ← HLOW.out] at h9
  have HS := hide h9
  have hll : (lowL l).length = 32 := by rw [lowL_len]; exact HL.out
  clear h9 HS9 k31 f31
  go_upto_region 7 with (first
    | (go_at_call 41; (with_reducible refine (fromA _ hll (by decide) (HS.out.rd 0 rfl)).mono ?_); rintro e wy ⟨zy, hzy, rfl, hb⟩; have HS := hide (HS.out.call hb))
    | (go_at_call 33; (with_reducible refine (mulA _ hzy hzy).mono ?_); rintro e wy ⟨zs, hzs, rfl, hb⟩; have HS := hide (HS.out.call hb))
    | (refine wl_storeR rfl rfl rfl rfl HS.out rowE (.head) (by first | exact EA.arr ‹_› | exact arr_zE) (by first | exact EA.arr ‹_› | exact arr_zE) ?_; intro wz hS9; have HS := hide hS9; clear hS9; (try simp only [Act.put, nq1, nq2, nq3, nq4, nq5, nq6])) | (refine wl_loadP rfl rfl rfl HS.out (.head _) rowE (.all (by first | exact EA.arr ‹_› | exact arr_zE)) ?_; (try simp only [Act.put, nq1, nq2, nq3, nq4, nq5, nq6])) | (refine wl_allocR rfl rfl HS.out newE ?_; intro gz wz hS9; have HS := hide hS9; clear hS9; (try simp only [Act.put, nq1, nq2, nq3, nq4, nq5, nq6])))
  have HS := hide HS.out.drew
  refine wp_region_XE [(12, 7)] [(0, 0), (3, 0), (1, 2), (2, 2), (4, 2), (5, 2), (6, 2), (7, 2), (8, 2), (9, 1), (10, 1), (11, 1)] (.op 13 2 (.op 14 1 (.nil))) zE 34 (by kernel_rfl) (by kernel_rfl) (by kernel_rfl) (by intro p hp; simp only [List.mem_cons, List.not_mem_nil, or_false] at hp; subst hp <;> exact flOp_of rfl rfl rfl (fun ev x => run_allocR rfl newE ev x)) (fun _ _ _ _ h => h) ?_
  refine wpX_loadP rfl rfl rfl rfl HS.out (.head _) rowE (.all (by first | exact EA.arr ‹_› | exact arr_zE)) ?_; (try simp only [Act.put, nq1, nq2, nq3, nq4, nq5, nq6])
  refine wpX_loadP rfl rfl rfl rfl HS.out (.head _) rowE (.all (by first | exact EA.arr ‹_› | exact arr_zE)) ?_; (try simp only [Act.put, nq1, nq2, nq3, nq4, nq5, nq6])
  refine wpX_callF rfl rfl rfl en48_fr rfl (fun x => small1A x) ?_; rintro xw e wy ⟨z, hz, rfl, hb⟩; refine ⟨_, rfl, hb, ?_⟩; (try simp only [Act.put, nq1, nq2, nq3, nq4, nq5, nq6])
  refine wpX_callF rfl rfl rfl en52_fr rfl (fun x => subA x ‹_› ‹_›) ?_; rintro xw e wy ⟨z, hz, rfl, hb⟩; refine ⟨_, rfl, hb, ?_⟩; (try simp only [Act.put, nq1, nq2, nq3, nq4, nq5, nq6])
  refine wpX_callF rfl rfl rfl en29_fr rfl (fun x => numD x) ?_; rintro xw e wy ⟨z, hz, rfl, hb⟩; refine ⟨_, rfl, hb, ?_⟩; (try simp only [Act.put, nq1, nq2, nq3, nq4, nq5, nq6])
  refine wpX_callF rfl rfl rfl en36_fr rfl (fun x => mulA x ‹_› ‹_›) ?_; rintro xw e wy ⟨z, hz, rfl, hb⟩; refine ⟨_, rfl, hb, ?_⟩; (try simp only [Act.put, nq1, nq2, nq3, nq4, nq5, nq6])
  refine wpX_callF rfl rfl rfl en48_fr rfl (fun x => small1A x) ?_; rintro xw e wy ⟨z, hz, rfl, hb⟩; refine ⟨_, rfl, hb, ?_⟩; (try simp only [Act.put, nq1, nq2, nq3, nq4, nq5, nq6])
  refine wpX_callF rfl rfl rfl en53_fr rfl (fun x => addA x ‹_› ‹_›) ?_; rintro xw e wy ⟨z, hz, rfl, hb⟩; refine ⟨_, rfl, hb, ?_⟩; (try simp only [Act.put, nq1, nq2, nq3, nq4, nq5, nq6])
  refine wpX_callF rfl rfl rfl en51_fr rfl (fun x => root_any x (by assumption) (by assumption)) ?_; rintro xw e wy ⟨z, hz, rfl, hb⟩; refine ⟨_, rfl, hb, ?_⟩; (try simp only [Act.put, nq1, nq2, nq3, nq4, nq5, nq6])
  (refine wpX_pure (v := ?_) rfl rfl ?_ ?_; rotate_left; (intro wx; go_simp; try go_bits) <;> (with_reducible rfl)); (try simp only [Act.put, nq1, nq2, nq3, nq4, nq5, nq6])
  (refine wpX_pure (v := ?_) rfl rfl ?_ ?_; rotate_left; (intro wx; go_simp; try go_bits) <;> (with_reducible rfl)); (try simp only [Act.put, nq1, nq2, nq3, nq4, nq5, nq6])
  (refine wpX_pure (v := ?_) rfl rfl ?_ ?_; rotate_left; (intro wx; go_simp; try go_bits) <;> (with_reducible rfl)); (try simp only [Act.put, nq1, nq2, nq3, nq4, nq5, nq6])
  refine wpX_nil ?_; intro G xz hx0 hx hF; have hS9 := HS.out.floats hx0 hF _ (by decide) (fun _ h => h); simp only [List.map_cons, List.map_nil, List.cons_append, List.nil_append] at hS9; have HS := hide hS9; have HX := hide hx0; have HG := hide hF.at_; clear hS9 hF hx0 hx; simp only [putsE, List.foldl_cons, List.foldl_nil]; (try simp only [Act.put, nq1, nq2, nq3, nq4, nq5, nq6])
  refine wpS_storeF rfl rfl rfl rfl rfl HS.out HX.out (HG.out 12 (by simp)).1 rowE (.head) (by first | exact EA.arr ‹_› | exact arr_zE) (by first | exact EA.arr ‹_› | exact arr_zE) ?_; intro wz hS9 hX9; have HS := hide hS9; have HX := hide hX9; clear hS9 hX9; (try simp only [Act.put, nq1, nq2, nq3, nq4, nq5, nq6])
  (refine wpS_pure (v := ?_) rfl rfl ?_ ?_; rotate_left; (intro wx; go_simp; try go_bits) <;> (with_reducible rfl)); (try simp only [Act.put, nq1, nq2, nq3, nq4, nq5, nq6])
  refine wpS_nil ?_
  cases hrt : rtF (fbytes (lowL l) * fbytes (lowL l) - 1) (fbytes (lowL l) * fbytes (lowL l) * dF + 1) with
  | none =>
    have hF : fromL l = none := by unfold fromL; rw [if_pos HL.out, unp_none hrt]
    simp only [Option.isSome_none]
    have HFK := hide hF
    clear hrt hF
    go_wp2_with (first | (refine wl_storeR rfl rfl rfl rfl HS.out rowP (.tail (.tail (.tail (.tail (.head))))) (by first | exact arr_zP | exact PtN.arr ‹_› | exact PtV.arr ‹_› | exact qE ‹_› ‹_› ‹_› ‹_›) (by first | exact arr_zP | exact PtN.arr ‹_› | exact PtV.arr ‹_› | exact qE ‹_› ‹_› ‹_› ‹_›) ?_; intro wz hS9; have HS := hide hS9; clear hS9; (try simp only [Act.put, nq1, nq2, nq3, nq4, nq5, nq6])))
    refine bodyPost_ret (results_cell_tmp_row rfl _ _ _ _ _ _ _ rfl (HS.out.heapM (by (repeat first | exact .head _ | apply List.Mem.tail))) Tryd.underlying36 rfl (by first | (rw [(EA.arr ‹_›).size]; kernel_rfl) | (rw [(NA.arr ‹_›).size]; kernel_rfl) | (rw [(qE ‹_› ‹_› ‹_› ‹_›).size]; kernel_rfl) | (rw [(qN ‹_› ‹_› ‹_› ‹_›).size]; kernel_rfl) | (rw [(PtN.arr ‹_›).size]; kernel_rfl) | (rw [(PtV.arr ‹_›).size]; kernel_rfl) | (rw [(QtN.arr ‹_›).size]; kernel_rfl))) rfl ?_
    rw [HFK.out]
    exact ⟨_, hzpt, rfl, HS.out.below⟩
  | some x =>
    have hx := ‹EA _ ((rtF (fbytes (lowL l) * fbytes (lowL l) - 1) (fbytes (lowL l) * fbytes (lowL l) * dF + 1)).getD 0)›
    rw [hrt, Option.getD_some] at hx
    obtain ⟨P, hP, hPx, hPy⟩ := unp_some (odd := topB l) hrt
    have hF : fromL l = if packL P = l then some P else none := by
      unfold fromL
      rw [if_pos HL.out, hP]
    simp only [Option.isSome_some]
    have HF := hide hF
    have HPY := hide hPy
    clear hrt hF hP
    go_upto_region 10 with fail
    have hq := HB.out _ HS.out.below
    have hbp := fun (a b c d : Array Value) (W : World) (ha : EA a P.x) (hb : EA b P.y) (hc : EA c 1) (hd : EA d (P.x * P.y)) => bytesP32 W (PtN.v ⟨⟨P.x, P.y, 1, P.x * P.y⟩, a, b, c, d, rfl, ha, hb, hc, hd, rp_of P⟩)
    have HBP := hide hbp
    have hpt := fun (a b c d : Array Value) (ha : EA a P.x) (hb : EA b P.y) (hc : EA c 1) (hd : EA d (P.x * P.y)) => (PtN.v ⟨⟨P.x, P.y, 1, P.x * P.y⟩, a, b, c, d, rfl, ha, hb, hc, hd, rp_of P⟩ : PtV (quad a b c d) P)
    have HPT := hide hpt
    have HPL := hide (packL_len P)
    clear hbp hpt hPy
    rw [HTOP.out] at hPx
    rw [← HPY.out] at hzy
    by_cases ht : 128 ≤ ch
    · have d1 : decide ((127 : Int) < (ch : Int)) = true := by simp; omega
      have d1' : decide (127 < ch) = true := by simp; omega
      rw [decide_eq_true ht] at hPx
      have hPx2 : P.x = -x := hPx
      clear ht hPx
      by_cases hk : packL P = l
      · have HEQ := hide (fun W B d (hr1 : Rd W (.slice B 32 d) 1 32 (bvs (packL P))) (hr2 : Rd W (.slice (some ⟨b, o, none⟩) 32 c) 1 32 (bvs l)) => equal_walk B (some ⟨b, o, none⟩) 32 d c (packL P) l W HPL.out HL.out (by decide) hr1 hr2)
        rw [decide_eq_true hk] at HEQ
        have HFK := hide (HF.out.trans (if_pos hk))
        clear hk
        go_wp2_with (first | (go_at_call 46; (with_reducible refine (negA _ hx).mono ?_); rintro e wy ⟨zn, hxn, rfl, hb⟩; rw [← hPx2] at hxn; have HS := hide (HS.out.call hb)) | (go_at_call 27; (with_reducible refine (at_any _ hxn hzy).mono ?_); rintro e wy ⟨qa, qb, qc, qd, hqa, hqb, hqc, hqd, rfl, hb⟩; have HS := hide (HS.out.call hb); have hpv := HPT.out _ _ _ _ hqa hqb hqc hqd) | (go_at_call 14; (with_reducible refine (HBP.out _ _ _ _ _ hqa hqb hqc hqd).mono ?_); rintro e wy ⟨B2, d2, rfl, hb, ho⟩; have HS := hide (HS.out.row hb ho); clear ho) | (go_at_call 20; (with_reducible refine (HEQ.out _ _ _ (HS.out.rd 0 rfl) (HR.out.below HS.out.below)).mono ?_); rintro e wy ⟨rfl, hb⟩; have HS := hide (HS.out.call hb)) | (refine wl_loadP rfl rfl rfl HS.out (.head _) rowE (.all (by first | exact EA.arr ‹_› | exact arr_zE)) ?_; (try simp only [Act.put, nq1, nq2, nq3, nq4, nq5, nq6])) | (refine wl_storeR rfl rfl rfl rfl HS.out rowE (.head) (by first | exact EA.arr ‹_› | exact arr_zE) (by first | exact EA.arr ‹_› | exact arr_zE) ?_; intro wz hS9; have HS := hide hS9; clear hS9; (try simp only [Act.put, nq1, nq2, nq3, nq4, nq5, nq6])) | (refine wl_loadP rfl rfl rfl HS.out (.tail _ (.tail _ (.head _))) rowE (.all (by first | exact EA.arr ‹_› | exact arr_zE)) ?_; (try simp only [Act.put, nq1, nq2, nq3, nq4, nq5, nq6])) | (refine wl_storeR rfl rfl rfl rfl HS.out rowP (.head) (by first | exact arr_zP | exact PtN.arr ‹_› | exact PtV.arr ‹_› | exact qE ‹_› ‹_› ‹_› ‹_›) (by first | exact arr_zP | exact PtN.arr ‹_› | exact PtV.arr ‹_› | exact qE ‹_› ‹_› ‹_› ‹_›) ?_; intro wz hS9; have HS := hide hS9; clear hS9; (try simp only [Act.put, nq1, nq2, nq3, nq4, nq5, nq6])) | (refine wl_loadP rfl rfl rfl HS.out (.head _) rowP (.all (by first | exact arr_zP | exact PtN.arr ‹_› | exact PtV.arr ‹_› | exact qE ‹_› ‹_› ‹_› ‹_›)) ?_; (try simp only [Act.put, nq1, nq2, nq3, nq4, nq5, nq6])) | (refine wl_storeR rfl rfl rfl rfl HS.out rowP (.tail (.tail (.tail (.tail (.tail (.tail (.head))))))) (by first | exact arr_zP | exact PtN.arr ‹_› | exact PtV.arr ‹_› | exact qE ‹_› ‹_› ‹_› ‹_›) (by first | exact arr_zP | exact PtN.arr ‹_› | exact PtV.arr ‹_› | exact qE ‹_› ‹_› ‹_› ‹_›) ?_; intro wz hS9; have HS := hide hS9; clear hS9; (try simp only [Act.put, nq1, nq2, nq3, nq4, nq5, nq6])) | (refine wl_loadP rfl rfl rfl HS.out (.tail _ (.head _)) rowP (.all (by first | exact arr_zP | exact PtN.arr ‹_› | exact PtV.arr ‹_› | exact qE ‹_› ‹_› ‹_› ‹_›)) ?_; (try simp only [Act.put, nq1, nq2, nq3, nq4, nq5, nq6])) | (refine wl_allocR rfl rfl HS.out newP ?_; intro gz wz hS9; have HS := hide hS9; clear hS9; (try simp only [Act.put, nq1, nq2, nq3, nq4, nq5, nq6])))
        refine bodyPost_ret (results_cell_tmp_row rfl _ _ _ _ _ _ _ rfl (HS.out.heapM (by (repeat first | exact .head _ | apply List.Mem.tail))) Tryd.underlying36 rfl (by first | (rw [(EA.arr ‹_›).size]; kernel_rfl) | (rw [(NA.arr ‹_›).size]; kernel_rfl) | (rw [(qE ‹_› ‹_› ‹_› ‹_›).size]; kernel_rfl) | (rw [(qN ‹_› ‹_› ‹_› ‹_›).size]; kernel_rfl) | (rw [(PtN.arr ‹_›).size]; kernel_rfl) | (rw [(PtV.arr ‹_›).size]; kernel_rfl) | (rw [(QtN.arr ‹_›).size]; kernel_rfl))) rfl ?_
        rw [HFK.out]
        exact ⟨_, hpv, rfl, HS.out.below⟩
      · have HEQ := hide (fun W B d (hr1 : Rd W (.slice B 32 d) 1 32 (bvs (packL P))) (hr2 : Rd W (.slice (some ⟨b, o, none⟩) 32 c) 1 32 (bvs l)) => equal_walk B (some ⟨b, o, none⟩) 32 d c (packL P) l W HPL.out HL.out (by decide) hr1 hr2)
        rw [decide_eq_false hk] at HEQ
        have HFK := hide (HF.out.trans (if_neg hk))
        clear hk
        go_wp2_with (first | (go_at_call 46; (with_reducible refine (negA _ hx).mono ?_); rintro e wy ⟨zn, hxn, rfl, hb⟩; rw [← hPx2] at hxn; have HS := hide (HS.out.call hb)) | (go_at_call 27; (with_reducible refine (at_any _ hxn hzy).mono ?_); rintro e wy ⟨qa, qb, qc, qd, hqa, hqb, hqc, hqd, rfl, hb⟩; have HS := hide (HS.out.call hb); have hpv := HPT.out _ _ _ _ hqa hqb hqc hqd) | (go_at_call 14; (with_reducible refine (HBP.out _ _ _ _ _ hqa hqb hqc hqd).mono ?_); rintro e wy ⟨B2, d2, rfl, hb, ho⟩; have HS := hide (HS.out.row hb ho); clear ho) | (go_at_call 20; (with_reducible refine (HEQ.out _ _ _ (HS.out.rd 0 rfl) (HR.out.below HS.out.below)).mono ?_); rintro e wy ⟨rfl, hb⟩; have HS := hide (HS.out.call hb)) | (refine wl_loadP rfl rfl rfl HS.out (.head _) rowE (.all (by first | exact EA.arr ‹_› | exact arr_zE)) ?_; (try simp only [Act.put, nq1, nq2, nq3, nq4, nq5, nq6])) | (refine wl_storeR rfl rfl rfl rfl HS.out rowE (.head) (by first | exact EA.arr ‹_› | exact arr_zE) (by first | exact EA.arr ‹_› | exact arr_zE) ?_; intro wz hS9; have HS := hide hS9; clear hS9; (try simp only [Act.put, nq1, nq2, nq3, nq4, nq5, nq6])) | (refine wl_loadP rfl rfl rfl HS.out (.tail _ (.tail _ (.head _))) rowE (.all (by first | exact EA.arr ‹_› | exact arr_zE)) ?_; (try simp only [Act.put, nq1, nq2, nq3, nq4, nq5, nq6])) | (refine wl_storeR rfl rfl rfl rfl HS.out rowP (.head) (by first | exact arr_zP | exact PtN.arr ‹_› | exact PtV.arr ‹_› | exact qE ‹_› ‹_› ‹_› ‹_›) (by first | exact arr_zP | exact PtN.arr ‹_› | exact PtV.arr ‹_› | exact qE ‹_› ‹_› ‹_› ‹_›) ?_; intro wz hS9; have HS := hide hS9; clear hS9; (try simp only [Act.put, nq1, nq2, nq3, nq4, nq5, nq6])) | (refine wl_loadP rfl rfl rfl HS.out (.head _) rowP (.all (by first | exact arr_zP | exact PtN.arr ‹_› | exact PtV.arr ‹_› | exact qE ‹_› ‹_› ‹_› ‹_›)) ?_; (try simp only [Act.put, nq1, nq2, nq3, nq4, nq5, nq6])) | (refine wl_storeR rfl rfl rfl rfl HS.out rowP (.tail (.tail (.tail (.tail (.tail (.tail (.head))))))) (by first | exact arr_zP | exact PtN.arr ‹_› | exact PtV.arr ‹_› | exact qE ‹_› ‹_› ‹_› ‹_›) (by first | exact arr_zP | exact PtN.arr ‹_› | exact PtV.arr ‹_› | exact qE ‹_› ‹_› ‹_› ‹_›) ?_; intro wz hS9; have HS := hide hS9; clear hS9; (try simp only [Act.put, nq1, nq2, nq3, nq4, nq5, nq6])) | (refine wl_loadP rfl rfl rfl HS.out (.tail _ (.head _)) rowP (.all (by first | exact arr_zP | exact PtN.arr ‹_› | exact PtV.arr ‹_› | exact qE ‹_› ‹_› ‹_› ‹_›)) ?_; (try simp only [Act.put, nq1, nq2, nq3, nq4, nq5, nq6])) | (refine wl_allocR rfl rfl HS.out newP ?_; intro gz wz hS9; have HS := hide hS9; clear hS9; (try simp only [Act.put, nq1, nq2, nq3, nq4, nq5, nq6])))
        refine bodyPost_ret (results_cell_tmp_row rfl _ _ _ _ _ _ _ rfl (HS.out.heapM (by (repeat first | exact .head _ | apply List.Mem.tail))) Tryd.underlying36 rfl (by first | (rw [(EA.arr ‹_›).size]; kernel_rfl) | (rw [(NA.arr ‹_›).size]; kernel_rfl) | (rw [(qE ‹_› ‹_› ‹_› ‹_›).size]; kernel_rfl) | (rw [(qN ‹_› ‹_› ‹_› ‹_›).size]; kernel_rfl) | (rw [(PtN.arr ‹_›).size]; kernel_rfl) | (rw [(PtV.arr ‹_›).size]; kernel_rfl) | (rw [(QtN.arr ‹_›).size]; kernel_rfl))) rfl ?_
        rw [HFK.out]
        exact ⟨_, hzpt, rfl, HS.out.below⟩
    · have d1 : decide ((127 : Int) < (ch : Int)) = false := by simp; omega
      have d1' : decide (127 < ch) = false := by simp; omega
      rw [decide_eq_false ht] at hPx
      have hPx2 : P.x = x := hPx
      clear ht hPx
      by_cases hk : packL P = l
      · have HEQ := hide (fun W B d (hr1 : Rd W (.slice B 32 d) 1 32 (bvs (packL P))) (hr2 : Rd W (.slice (some ⟨b, o, none⟩) 32 c) 1 32 (bvs l)) => equal_walk B (some ⟨b, o, none⟩) 32 d c (packL P) l W HPL.out HL.out (by decide) hr1 hr2)
        rw [decide_eq_true hk] at HEQ
        have HFK := hide (HF.out.trans (if_pos hk))
        clear hk
        have hxn := hx
        rw [← hPx2] at hxn
        go_wp2_with (first | (go_at_call 27; (with_reducible refine (at_any _ hxn hzy).mono ?_); rintro e wy ⟨qa, qb, qc, qd, hqa, hqb, hqc, hqd, rfl, hb⟩; have HS := hide (HS.out.call hb); have hpv := HPT.out _ _ _ _ hqa hqb hqc hqd) | (go_at_call 14; (with_reducible refine (HBP.out _ _ _ _ _ hqa hqb hqc hqd).mono ?_); rintro e wy ⟨B2, d2, rfl, hb, ho⟩; have HS := hide (HS.out.row hb ho); clear ho) | (go_at_call 20; (with_reducible refine (HEQ.out _ _ _ (HS.out.rd 0 rfl) (HR.out.below HS.out.below)).mono ?_); rintro e wy ⟨rfl, hb⟩; have HS := hide (HS.out.call hb)) | (refine wl_loadP rfl rfl rfl HS.out (.head _) rowE (.all (by first | exact EA.arr ‹_› | exact arr_zE)) ?_; (try simp only [Act.put, nq1, nq2, nq3, nq4, nq5, nq6])) | (refine wl_storeR rfl rfl rfl rfl HS.out rowE (.head) (by first | exact EA.arr ‹_› | exact arr_zE) (by first | exact EA.arr ‹_› | exact arr_zE) ?_; intro wz hS9; have HS := hide hS9; clear hS9; (try simp only [Act.put, nq1, nq2, nq3, nq4, nq5, nq6])) | (refine wl_loadP rfl rfl rfl HS.out (.tail _ (.tail _ (.head _))) rowE (.all (by first | exact EA.arr ‹_› | exact arr_zE)) ?_; (try simp only [Act.put, nq1, nq2, nq3, nq4, nq5, nq6])) | (refine wl_storeR rfl rfl rfl rfl HS.out rowP (.head) (by first | exact arr_zP | exact PtN.arr ‹_› | exact PtV.arr ‹_› | exact qE ‹_› ‹_› ‹_› ‹_›) (by first | exact arr_zP | exact PtN.arr ‹_› | exact PtV.arr ‹_› | exact qE ‹_› ‹_› ‹_› ‹_›) ?_; intro wz hS9; have HS := hide hS9; clear hS9; (try simp only [Act.put, nq1, nq2, nq3, nq4, nq5, nq6])) | (refine wl_loadP rfl rfl rfl HS.out (.head _) rowP (.all (by first | exact arr_zP | exact PtN.arr ‹_› | exact PtV.arr ‹_› | exact qE ‹_› ‹_› ‹_› ‹_›)) ?_; (try simp only [Act.put, nq1, nq2, nq3, nq4, nq5, nq6])) | (refine wl_storeR rfl rfl rfl rfl HS.out rowP (.tail (.tail (.tail (.tail (.tail (.tail (.head))))))) (by first | exact arr_zP | exact PtN.arr ‹_› | exact PtV.arr ‹_› | exact qE ‹_› ‹_› ‹_› ‹_›) (by first | exact arr_zP | exact PtN.arr ‹_› | exact PtV.arr ‹_› | exact qE ‹_› ‹_› ‹_› ‹_›) ?_; intro wz hS9; have HS := hide hS9; clear hS9; (try simp only [Act.put, nq1, nq2, nq3, nq4, nq5, nq6])) | (refine wl_loadP rfl rfl rfl HS.out (.tail _ (.head _)) rowP (.all (by first | exact arr_zP | exact PtN.arr ‹_› | exact PtV.arr ‹_› | exact qE ‹_› ‹_› ‹_› ‹_›)) ?_; (try simp only [Act.put, nq1, nq2, nq3, nq4, nq5, nq6])) | (refine wl_allocR rfl rfl HS.out newP ?_; intro gz wz hS9; have HS := hide hS9; clear hS9; (try simp only [Act.put, nq1, nq2, nq3, nq4, nq5, nq6])))
        refine bodyPost_ret (results_cell_tmp_row rfl _ _ _ _ _ _ _ rfl (HS.out.heapM (by (repeat first | exact .head _ | apply List.Mem.tail))) Tryd.underlying36 rfl (by first | (rw [(EA.arr ‹_›).size]; kernel_rfl) | (rw [(NA.arr ‹_›).size]; kernel_rfl) | (rw [(qE ‹_› ‹_› ‹_› ‹_›).size]; kernel_rfl) | (rw [(qN ‹_› ‹_› ‹_› ‹_›).size]; kernel_rfl) | (rw [(PtN.arr ‹_›).size]; kernel_rfl) | (rw [(PtV.arr ‹_›).size]; kernel_rfl) | (rw [(QtN.arr ‹_›).size]; kernel_rfl))) rfl ?_
        rw [HFK.out]
        exact ⟨_, hpv, rfl, HS.out.below⟩
      · have HEQ := hide (fun W B d (hr1 : Rd W (.slice B 32 d) 1 32 (bvs (packL P))) (hr2 : Rd W (.slice (some ⟨b, o, none⟩) 32 c) 1 32 (bvs l)) => equal_walk B (some ⟨b, o, none⟩) 32 d c (packL P) l W HPL.out HL.out (by decide) hr1 hr2)
        rw [decide_eq_false hk] at HEQ
        have HFK := hide (HF.out.trans (if_neg hk))
        clear hk
        have hxn := hx
        rw [← hPx2] at hxn
        go_wp2_with (first | (go_at_call 27; (with_reducible refine (at_any _ hxn hzy).mono ?_); rintro e wy ⟨qa, qb, qc, qd, hqa, hqb, hqc, hqd, rfl, hb⟩; have HS := hide (HS.out.call hb); have hpv := HPT.out _ _ _ _ hqa hqb hqc hqd) | (go_at_call 14; (with_reducible refine (HBP.out _ _ _ _ _ hqa hqb hqc hqd).mono ?_); rintro e wy ⟨B2, d2, rfl, hb, ho⟩; have HS := hide (HS.out.row hb ho); clear ho) | (go_at_call 20; (with_reducible refine (HEQ.out _ _ _ (HS.out.rd 0 rfl) (HR.out.below HS.out.below)).mono ?_); rintro e wy ⟨rfl, hb⟩; have HS := hide (HS.out.call hb)) | (refine wl_loadP rfl rfl rfl HS.out (.head _) rowE (.all (by first | exact EA.arr ‹_› | exact arr_zE)) ?_; (try simp only [Act.put, nq1, nq2, nq3, nq4, nq5, nq6])) | (refine wl_storeR rfl rfl rfl rfl HS.out rowE (.head) (by first | exact EA.arr ‹_› | exact arr_zE) (by first | exact EA.arr ‹_› | exact arr_zE) ?_; intro wz hS9; have HS := hide hS9; clear hS9; (try simp only [Act.put, nq1, nq2, nq3, nq4, nq5, nq6])) | (refine wl_loadP rfl rfl rfl HS.out (.tail _ (.tail _ (.head _))) rowE (.all (by first | exact EA.arr ‹_› | exact arr_zE)) ?_; (try simp only [Act.put, nq1, nq2, nq3, nq4, nq5, nq6])) | (refine wl_storeR rfl rfl rfl rfl HS.out rowP (.head) (by first | exact arr_zP | exact PtN.arr ‹_› | exact PtV.arr ‹_› | exact qE ‹_› ‹_› ‹_› ‹_›) (by first | exact arr_zP | exact PtN.arr ‹_› | exact PtV.arr ‹_› | exact qE ‹_› ‹_› ‹_› ‹_›) ?_; intro wz hS9; have HS := hide hS9; clear hS9; (try simp only [Act.put, nq1, nq2, nq3, nq4, nq5, nq6])) | (refine wl_loadP rfl rfl rfl HS.out (.head _) rowP (.all (by first | exact arr_zP | exact PtN.arr ‹_› | exact PtV.arr ‹_› | exact qE ‹_› ‹_› ‹_› ‹_›)) ?_; (try simp only [Act.put, nq1, nq2, nq3, nq4, nq5, nq6])) | (refine wl_storeR rfl rfl rfl rfl HS.out rowP (.tail (.tail (.tail (.tail (.tail (.tail (.head))))))) (by first | exact arr_zP | exact PtN.arr ‹_› | exact PtV.arr ‹_› | exact qE ‹_› ‹_› ‹_› ‹_›) (by first | exact arr_zP | exact PtN.arr ‹_› | exact PtV.arr ‹_› | exact qE ‹_› ‹_› ‹_› ‹_›) ?_; intro wz hS9; have HS := hide hS9; clear hS9; (try simp only [Act.put, nq1, nq2, nq3, nq4, nq5, nq6])) | (refine wl_loadP rfl rfl rfl HS.out (.tail _ (.head _)) rowP (.all (by first | exact arr_zP | exact PtN.arr ‹_› | exact PtV.arr ‹_› | exact qE ‹_› ‹_› ‹_› ‹_›)) ?_; (try simp only [Act.put, nq1, nq2, nq3, nq4, nq5, nq6])) | (refine wl_allocR rfl rfl HS.out newP ?_; intro gz wz hS9; have HS := hide hS9; clear hS9; (try simp only [Act.put, nq1, nq2, nq3, nq4, nq5, nq6])))
        refine bodyPost_ret (results_cell_tmp_row rfl _ _ _ _ _ _ _ rfl (HS.out.heapM (by (repeat first | exact .head _ | apply List.Mem.tail))) Tryd.underlying36 rfl (by first | (rw [(EA.arr ‹_›).size]; kernel_rfl) | (rw [(NA.arr ‹_›).size]; kernel_rfl) | (rw [(qE ‹_› ‹_› ‹_› ‹_›).size]; kernel_rfl) | (rw [(qN ‹_› ‹_› ‹_› ‹_›).size]; kernel_rfl) | (rw [(PtN.arr ‹_›).size]; kernel_rfl) | (rw [(PtV.arr ‹_›).size]; kernel_rfl) | (rw [(QtN.arr ‹_›).size]; kernel_rfl))) rfl ?_
        rw [HFK.out]
        exact ⟨_, hzpt, rfl, HS.out.below⟩
theorem from_any {A : Option Addr} {n c : Nat} {l : List UInt8} (w : World) (hl : l.length = n) (hr : Rd w (.slice A n c) 1 n (bvs l)) : Calls Tryd.prog 16 #[.slice A n c] w (ResF w (fromL l)) := by
  by_cases h : n = 32
  · subst h
    exact from_32 w hl hr
  · exact from_no w hl h
theorem from_none {A : Option Addr} {n c : Nat} {l : List UInt8} (w : World) (h : fromL l = none) (hl : l.length = n) (hr : Rd w (.slice A n c) 1 n (bvs l)) : Calls Tryd.prog 16 #[.slice A n c] w fun e w' => ∃ v, PtV v .zero ∧ e = .returned (.tuple #[.agg v, .bool false]) ∧ Below w.heap.size w w' := by
  have := from_any w hl hr
  rw [h] at this
  exact this
theorem from_some {A : Option Addr} {n c : Nat} {l : List UInt8} {P : Ed} (w : World) (h : fromL l = some P) (hl : l.length = n) (hr : Rd w (.slice A n c) 1 n (bvs l)) : Calls Tryd.prog 16 #[.slice A n c] w fun e w' => ∃ v, PtV v P ∧ e = .returned (.tuple #[.agg v, .bool true]) ∧ Below w.heap.size w w' := by
  have := from_any w hl hr
  rw [h] at this
  exact this
end Go.Proofs.YtkelegjppnfoaaaDoor
