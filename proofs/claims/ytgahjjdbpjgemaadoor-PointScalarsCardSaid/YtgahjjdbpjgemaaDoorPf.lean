/-
  Joined of texts of mine, in build order: Br, Bs, Bu, Bk, Bm, Bi, Bj, Bn. Each says what it proves at its own head.
-/
import Derived.Test.YtgahjjdbpjgemaaDoorPe
set_option linter.unusedSimpArgs false
set_option linter.unusedVariables false

/-
  Layer 4: the page's points: its numbers d and the root of -1; Zero, Base, a point turned about, a sum.
-/
namespace Go.Proofs.YtgahjjdbpjgemaaDoor
open Go.RowKit
set_option linter.unusedSimpArgs false

theorem wl_build4 {P : Program} {ops : Array Oper} {Q : Exit → Act → World → Prop} {rest : List Oper} {o : Oper} {a : Act} {w : World} {t : TypeId} {A : Array Value → Prop} {p q r s : Operand} {va vb vc vd : Array Value} (hgd : o.guard = none) (ho : o.op = .build t #[(0, p), (1, q), (2, r), (3, s)]) (h0 : a.eval p = .agg va) (h1 : a.eval q = .agg vb) (h2 : a.eval r = .agg vc) (h3 : a.eval s = .agg vd)
    (hB : BuildOf P t A) (ha : A va) (hb : A vb) (hc : A vc) (hd : A vd) (h : wpList P ops Q rest (a.put o.dst (.agg (quad va vb vc vd))) w) : wpList P ops Q (o :: rest) a w :=
  wpList_plain hgd fun K hK => by
    unfold Oper.wp
    rw [run_build4 ho h0 h1 h2 h3 hB ha hb hc hd w]
    exact hK _ _ h
theorem wl_build0 {P : Program} {ops : Array Oper} {Q : Exit → Act → World → Prop} {rest : List Oper} {o : Oper} {a : Act} {w : World} {t : TypeId} {v : Array Value} (hgd : o.guard = none) (ho : o.op = .build t #[])
    (hB : P.built t [] = some v) (h : wpList P ops Q rest (a.put o.dst (.agg v)) w) : wpList P ops Q (o :: rest) a w :=
  wpList_plain hgd fun K hK => by
    have e : (execOp a.eval o).run P w = .ok (.value (.agg v)) w := by
      have e2 : ((#[] : Array (Nat × Operand)).map fun (i, x) => (i, a.eval x)).toList = [] := by simp
      unfold execOp
      simp only [ho]
      simp only [Sem.run_bind, run_build w t _ _ (by rw [e2]; exact hB), Result.andThen_ok]
      rfl
    unfold Oper.wp
    rw [e]
    exact hK _ _ h
theorem build0N : Tryd.prog.built 34 [] = some #[.int .i64 0, .int .i64 0, .int .i64 0, .int .i64 0, .int .i64 0, .int .i64 0, .int .i64 0, .int .i64 0, .int .i64 0, .int .i64 0, .int .i64 0, .int .i64 0, .int .i64 0, .int .i64 0, .int .i64 0, .int .i64 0] := by kernel_rfl
theorem na_d : NA #[.int .i64 30883, .int .i64 4953, .int .i64 19914, .int .i64 30187, .int .i64 55467, .int .i64 16705, .int .i64 2637, .int .i64 112, .int .i64 59544, .int .i64 30585, .int .i64 16505, .int .i64 36039, .int .i64 65139, .int .i64 11119, .int .i64 27886, .int .i64 20995] dF := by
  have h := ne_of (37095705934669439343138083508754565189542113879843219016388785533085940283555) [30883, 4953, 19914, 30187, 55467, 16705, 2637, 112, 59544, 30585, 16505, 36039, 65139, 11119, 27886, 20995] rfl (by decide) (by decide +kernel)
  rw [show toF 37095705934669439343138083508754565189542113879843219016388785533085940283555 = dF from Fin.ext (by rw [dF_val]; show _ % Pq = _; unfold Pq; decide)] at h
  exact ⟨_, rfl, h⟩
theorem na_i : NA #[.int .i64 41136, .int .i64 18958, .int .i64 6951, .int .i64 50414, .int .i64 58488, .int .i64 44335, .int .i64 6150, .int .i64 12099, .int .i64 55207, .int .i64 15867, .int .i64 153, .int .i64 11085, .int .i64 57099, .int .i64 20417, .int .i64 9344, .int .i64 11139] iF := by
  have h := ne_of (19681161376707505956807079304988542015446066515923890162744021073123829784752) [41136, 18958, 6951, 50414, 58488, 44335, 6150, 12099, 55207, 15867, 153, 11085, 57099, 20417, 9344, 11139] rfl (by decide) (by decide +kernel)
  rw [show toF 19681161376707505956807079304988542015446066515923890162744021073123829784752 = iF from Fin.ext (by show _ % Pq = iN; unfold Pq iN; decide)] at h
  exact ⟨_, rfl, h⟩
theorem na_x : NA #[.int .i64 54554, .int .i64 36645, .int .i64 11616, .int .i64 51542, .int .i64 42930, .int .i64 38181, .int .i64 51040, .int .i64 26924, .int .i64 56412, .int .i64 64982, .int .i64 57905, .int .i64 49316, .int .i64 21502, .int .i64 52590, .int .i64 14035, .int .i64 8553] Bp.x := by
  have h := ne_of (15112221349535400772501151409588531511454012693041857206046113283949847762202) [54554, 36645, 11616, 51542, 42930, 38181, 51040, 26924, 56412, 64982, 57905, 49316, 21502, 52590, 14035, 8553] rfl (by decide) (by decide +kernel)
  rw [show toF 15112221349535400772501151409588531511454012693041857206046113283949847762202 = Bp.x from rfl] at h
  exact ⟨_, rfl, h⟩
theorem na_y : NA #[.int .i64 26200, .int .i64 26214, .int .i64 26214, .int .i64 26214, .int .i64 26214, .int .i64 26214, .int .i64 26214, .int .i64 26214, .int .i64 26214, .int .i64 26214, .int .i64 26214, .int .i64 26214, .int .i64 26214, .int .i64 26214, .int .i64 26214, .int .i64 26214] Bp.y := by
  have h := ne_of (46316835694926478169428394003475163141307993866256225615783033603165251855960) [26200, 26214, 26214, 26214, 26214, 26214, 26214, 26214, 26214, 26214, 26214, 26214, 26214, 26214, 26214, 26214] rfl (by decide) (by decide +kernel)
  rw [show toF 46316835694926478169428394003475163141307993866256225615783033603165251855960 = Bp.y from rfl] at h
  exact ⟨_, rfl, h⟩
theorem na_0 : NA #[.int .i64 0, .int .i64 0, .int .i64 0, .int .i64 0, .int .i64 0, .int .i64 0, .int .i64 0, .int .i64 0, .int .i64 0, .int .i64 0, .int .i64 0, .int .i64 0, .int .i64 0, .int .i64 0, .int .i64 0, .int .i64 0] 0 := na_zero
/-- The page's four numbers that stand for a point. -/
structure QtN (v : Array Value) (P : Ed) : Prop where
  ex : ∃ A a b c d, v = quad a b c d ∧ NA a A.X ∧ NA b A.Y ∧ NA c A.Z ∧ NA d A.T ∧ Rp A P
theorem QtN.arr {v : Array Value} {P : Ed} (h : QtN v P) : Arr 64 v := by
  obtain ⟨A, a, b, c, d, rfl, h2, h3, h4, h5, _⟩ := h.ex
  exact quad_arr h2.arr h3.arr h4.arr h5.arr rfl
def ResQ (w : World) (P : Ed) (e : Ending) (w' : World) : Prop := ∃ v, QtN v P ∧ e = .returned (.agg v) ∧ Below w.heap.size w w'
set_option maxRecDepth 100000 in
set_option maxHeartbeats 800000 in
theorem dNA (w : World) : Calls Tryd.prog 44 #[] w (ResA w dF) := by
  have hc := na_d
  have HS := hide (St.init w NoB)
  go_enter Tryd.func44, Tryd.ntmps44
  go_wp2_with (first | (refine wl_loadP rfl rfl rfl HS.out (by (repeat first | exact .head _ | apply List.Mem.tail)) (by first | exact rowE | exact rowP | exact rowN | exact rowQ) (by (first | exact .q0 (EA.arr ‹_›) | exact .q1 (EA.arr ‹_›) (EA.arr ‹_›) | exact .q2 (EA.arr ‹_›) (EA.arr ‹_›) (EA.arr ‹_›) | exact .q3 (EA.arr ‹_›) (EA.arr ‹_›) (EA.arr ‹_›) (EA.arr ‹_›) | exact .q0 (NA.arr ‹_›) | exact .q1 (NA.arr ‹_›) (NA.arr ‹_›) | exact .q2 (NA.arr ‹_›) (NA.arr ‹_›) (NA.arr ‹_›) | exact .q3 (NA.arr ‹_›) (NA.arr ‹_›) (NA.arr ‹_›) (NA.arr ‹_›) | exact .all (by (first | exact EA.arr ‹_› | exact NA.arr ‹_› | exact arr_zE | exact arr_zN | exact arr_zP | exact arr_zQ | exact PtN.arr ‹_› | exact PtV.arr ‹_› | exact QtN.arr ‹_› | exact qE ‹_› ‹_› ‹_› ‹_› | exact qN ‹_› ‹_› ‹_› ‹_›)))) ?_; (try simp only [Act.put, nq1, nq2, nq3, nq4, nq5, nq6])) | (refine wl_storeR rfl rfl rfl rfl HS.out (by first | exact rowE | exact rowP | exact rowN | exact rowQ) (by (repeat first | exact .head | apply Upd.tail)) (by (first | exact EA.arr ‹_› | exact NA.arr ‹_› | exact arr_zE | exact arr_zN | exact arr_zP | exact arr_zQ | exact PtN.arr ‹_› | exact PtV.arr ‹_› | exact QtN.arr ‹_› | exact qE ‹_› ‹_› ‹_› ‹_› | exact qN ‹_› ‹_› ‹_› ‹_›)) (by (first | exact EA.arr ‹_› | exact NA.arr ‹_› | exact arr_zE | exact arr_zN | exact arr_zP | exact arr_zQ | exact PtN.arr ‹_› | exact PtV.arr ‹_› | exact QtN.arr ‹_› | exact qE ‹_› ‹_› ‹_› ‹_› | exact qN ‹_› ‹_› ‹_› ‹_›)) ?_; intro wz hS9; have HS := hide hS9; clear hS9; (try simp only [Act.put, nq1, nq2, nq3, nq4, nq5, nq6])) | (refine wl_allocR rfl rfl HS.out (by first | exact newE | exact newP | exact newN | exact newQ) ?_; intro gz wz hS9; have HS := hide hS9; clear hS9; (try simp only [Act.put, nq1, nq2, nq3, nq4, nq5, nq6])) | (refine wl_boxR rfl rfl rfl HS.out ?_; intro gz wz hS9; have HS := hide hS9; clear hS9; (try simp only [Act.put, nq1, nq2, nq3, nq4, nq5, nq6])))
  refine bodyPost_ret (results_cell_row rfl _ _ _ _ _ _ _ rfl (HS.out.heapM (by (repeat first | exact .head _ | apply List.Mem.tail))) Tryd.underlying34 rfl (by first | (rw [(EA.arr ‹_›).size]; kernel_rfl) | (rw [(NA.arr ‹_›).size]; kernel_rfl) | (rw [(qE ‹_› ‹_› ‹_› ‹_›).size]; kernel_rfl) | (rw [(qN ‹_› ‹_› ‹_› ‹_›).size]; kernel_rfl) | (rw [(PtN.arr ‹_›).size]; kernel_rfl) | (rw [(PtV.arr ‹_›).size]; kernel_rfl) | (rw [(QtN.arr ‹_›).size]; kernel_rfl))) rfl ?_
  exact ⟨_, hc, rfl, HS.out.below⟩
set_option maxRecDepth 100000 in
set_option maxHeartbeats 800000 in
theorem iNA (w : World) : Calls Tryd.prog 70 #[] w (ResA w iF) := by
  have hc := na_i
  have HS := hide (St.init w NoB)
  go_enter Tryd.func70, Tryd.ntmps70
  go_wp2_with (first | (refine wl_loadP rfl rfl rfl HS.out (by (repeat first | exact .head _ | apply List.Mem.tail)) (by first | exact rowE | exact rowP | exact rowN | exact rowQ) (by (first | exact .q0 (EA.arr ‹_›) | exact .q1 (EA.arr ‹_›) (EA.arr ‹_›) | exact .q2 (EA.arr ‹_›) (EA.arr ‹_›) (EA.arr ‹_›) | exact .q3 (EA.arr ‹_›) (EA.arr ‹_›) (EA.arr ‹_›) (EA.arr ‹_›) | exact .q0 (NA.arr ‹_›) | exact .q1 (NA.arr ‹_›) (NA.arr ‹_›) | exact .q2 (NA.arr ‹_›) (NA.arr ‹_›) (NA.arr ‹_›) | exact .q3 (NA.arr ‹_›) (NA.arr ‹_›) (NA.arr ‹_›) (NA.arr ‹_›) | exact .all (by (first | exact EA.arr ‹_› | exact NA.arr ‹_› | exact arr_zE | exact arr_zN | exact arr_zP | exact arr_zQ | exact PtN.arr ‹_› | exact PtV.arr ‹_› | exact QtN.arr ‹_› | exact qE ‹_› ‹_› ‹_› ‹_› | exact qN ‹_› ‹_› ‹_› ‹_›)))) ?_; (try simp only [Act.put, nq1, nq2, nq3, nq4, nq5, nq6])) | (refine wl_storeR rfl rfl rfl rfl HS.out (by first | exact rowE | exact rowP | exact rowN | exact rowQ) (by (repeat first | exact .head | apply Upd.tail)) (by (first | exact EA.arr ‹_› | exact NA.arr ‹_› | exact arr_zE | exact arr_zN | exact arr_zP | exact arr_zQ | exact PtN.arr ‹_› | exact PtV.arr ‹_› | exact QtN.arr ‹_› | exact qE ‹_› ‹_› ‹_› ‹_› | exact qN ‹_› ‹_› ‹_› ‹_›)) (by (first | exact EA.arr ‹_› | exact NA.arr ‹_› | exact arr_zE | exact arr_zN | exact arr_zP | exact arr_zQ | exact PtN.arr ‹_› | exact PtV.arr ‹_› | exact QtN.arr ‹_› | exact qE ‹_› ‹_› ‹_› ‹_› | exact qN ‹_› ‹_› ‹_› ‹_›)) ?_; intro wz hS9; have HS := hide hS9; clear hS9; (try simp only [Act.put, nq1, nq2, nq3, nq4, nq5, nq6])) | (refine wl_allocR rfl rfl HS.out (by first | exact newE | exact newP | exact newN | exact newQ) ?_; intro gz wz hS9; have HS := hide hS9; clear hS9; (try simp only [Act.put, nq1, nq2, nq3, nq4, nq5, nq6])) | (refine wl_boxR rfl rfl rfl HS.out ?_; intro gz wz hS9; have HS := hide hS9; clear hS9; (try simp only [Act.put, nq1, nq2, nq3, nq4, nq5, nq6])))
  refine bodyPost_ret (results_cell_row rfl _ _ _ _ _ _ _ rfl (HS.out.heapM (by (repeat first | exact .head _ | apply List.Mem.tail))) Tryd.underlying34 rfl (by first | (rw [(EA.arr ‹_›).size]; kernel_rfl) | (rw [(NA.arr ‹_›).size]; kernel_rfl) | (rw [(qE ‹_› ‹_› ‹_› ‹_›).size]; kernel_rfl) | (rw [(qN ‹_› ‹_› ‹_› ‹_›).size]; kernel_rfl) | (rw [(PtN.arr ‹_›).size]; kernel_rfl) | (rw [(PtV.arr ‹_›).size]; kernel_rfl) | (rw [(QtN.arr ‹_›).size]; kernel_rfl))) rfl ?_
  exact ⟨_, hc, rfl, HS.out.below⟩
theorem en33_bs (args : Array Value) (w : World) : (callFunc 33 args).run Tryd.prog w = .ok (.enter 33 args) w := by kernel_rfl
theorem en34_bs (args : Array Value) (w : World) : (callFunc 34 args).run Tryd.prog w = .ok (.enter 34 args) w := by kernel_rfl
theorem en34_pq (args : Array Value) (w : World) : (callFunc 34 args).run Tryd.prog w = .ok (.enter 34 args) w := by kernel_rfl
theorem en42_nq (args : Array Value) (w : World) : (callFunc 42 args).run Tryd.prog w = .ok (.enter 42 args) w := by kernel_rfl
theorem en42_pq (args : Array Value) (w : World) : (callFunc 42 args).run Tryd.prog w = .ok (.enter 42 args) w := by kernel_rfl
theorem en43_pq (args : Array Value) (w : World) : (callFunc 43 args).run Tryd.prog w = .ok (.enter 43 args) w := by kernel_rfl
set_option maxRecDepth 100000 in
set_option maxHeartbeats 1600000 in
theorem zeroQ (w : World) : Calls Tryd.prog 32 #[] w (ResQ w .zero) := by
  obtain ⟨zz, hzz, hc⟩ : ∃ v, Tryd.prog.built 34 [] = some v ∧ NA v 0 := ⟨_, build0N, na_0⟩
  have HS := hide (St.init w NoB)
  go_enter Tryd.func32, Tryd.ntmps32
  go_wp2_with (first | (refine wl_allocR rfl rfl HS.out newQ ?_; intro gz wz hS9; have HS := hide hS9; clear hS9; (try simp only [Act.put, nq1, nq2, nq3, nq4, nq5, nq6])) | (go_at_call 33; (with_reducible refine (smallNA1 _).mono ?_); rintro e wy ⟨z, hz, rfl, hb⟩; have HS := hide (HS.out.call hb)) | (refine wl_build0 rfl rfl hzz ?_; (try simp only [Act.put, nq1, nq2, nq3, nq4, nq5, nq6])) | (refine wl_build4 rfl rfl rfl rfl rfl rfl buildQ (exN hc) (exN (by assumption)) (exN (by assumption)) (exN hc) ?_; (try simp only [Act.put, nq1, nq2, nq3, nq4, nq5, nq6])) | (refine wl_storeR rfl rfl rfl rfl HS.out rowQ (.head) (by first | exact arr_zQ | exact QtN.arr ‹_› | exact qN ‹_› ‹_› ‹_› ‹_›) (by first | exact arr_zQ | exact QtN.arr ‹_› | exact qN ‹_› ‹_› ‹_› ‹_›) ?_; intro wz hS9; have HS := hide hS9; clear hS9; (try simp only [Act.put, nq1, nq2, nq3, nq4, nq5, nq6])))
  refine bodyPost_ret (results_cell_row rfl _ _ _ _ _ _ _ rfl (HS.out.heapM (by (repeat first | exact .head _ | apply List.Mem.tail))) Tryd.underlying36 rfl (by first | (rw [(EA.arr ‹_›).size]; kernel_rfl) | (rw [(NA.arr ‹_›).size]; kernel_rfl) | (rw [(qE ‹_› ‹_› ‹_› ‹_›).size]; kernel_rfl) | (rw [(qN ‹_› ‹_› ‹_› ‹_›).size]; kernel_rfl) | (rw [(PtN.arr ‹_›).size]; kernel_rfl) | (rw [(PtV.arr ‹_›).size]; kernel_rfl) | (rw [(QtN.arr ‹_›).size]; kernel_rfl))) rfl ?_
  exact ⟨_, ⟨⟨0, 1, 1, 0⟩, _, _, _, _, rfl, hc, by assumption, by assumption, hc, rp_zero⟩, rfl, HS.out.below⟩
set_option maxRecDepth 100000 in
set_option maxHeartbeats 1600000 in
theorem baseQ (w : World) : Calls Tryd.prog 14 #[] w (ResQ w Bp) := by
  have hx := na_x
  have hy := na_y
  have HS := hide (St.init w NoB)
  go_enter Tryd.func14, Tryd.ntmps14
  go_wp2_with (first | (refine wl_loadP rfl rfl rfl HS.out (by (repeat first | exact .head _ | apply List.Mem.tail)) (by first | exact rowE | exact rowP | exact rowN | exact rowQ) (by (first | exact .q0 (EA.arr ‹_›) | exact .q1 (EA.arr ‹_›) (EA.arr ‹_›) | exact .q2 (EA.arr ‹_›) (EA.arr ‹_›) (EA.arr ‹_›) | exact .q3 (EA.arr ‹_›) (EA.arr ‹_›) (EA.arr ‹_›) (EA.arr ‹_›) | exact .q0 (NA.arr ‹_›) | exact .q1 (NA.arr ‹_›) (NA.arr ‹_›) | exact .q2 (NA.arr ‹_›) (NA.arr ‹_›) (NA.arr ‹_›) | exact .q3 (NA.arr ‹_›) (NA.arr ‹_›) (NA.arr ‹_›) (NA.arr ‹_›) | exact .all (by (first | exact EA.arr ‹_› | exact NA.arr ‹_› | exact arr_zE | exact arr_zN | exact arr_zP | exact arr_zQ | exact PtN.arr ‹_› | exact PtV.arr ‹_› | exact QtN.arr ‹_› | exact qE ‹_› ‹_› ‹_› ‹_› | exact qN ‹_› ‹_› ‹_› ‹_›)))) ?_; (try simp only [Act.put, nq1, nq2, nq3, nq4, nq5, nq6])) | (refine wl_storeR rfl rfl rfl rfl HS.out (by first | exact rowE | exact rowP | exact rowN | exact rowQ) (by (repeat first | exact .head | apply Upd.tail)) (by (first | exact EA.arr ‹_› | exact NA.arr ‹_› | exact arr_zE | exact arr_zN | exact arr_zP | exact arr_zQ | exact PtN.arr ‹_› | exact PtV.arr ‹_› | exact QtN.arr ‹_› | exact qE ‹_› ‹_› ‹_› ‹_› | exact qN ‹_› ‹_› ‹_› ‹_›)) (by (first | exact EA.arr ‹_› | exact NA.arr ‹_› | exact arr_zE | exact arr_zN | exact arr_zP | exact arr_zQ | exact PtN.arr ‹_› | exact PtV.arr ‹_› | exact QtN.arr ‹_› | exact qE ‹_› ‹_› ‹_› ‹_› | exact qN ‹_› ‹_› ‹_› ‹_›)) ?_; intro wz hS9; have HS := hide hS9; clear hS9; (try simp only [Act.put, nq1, nq2, nq3, nq4, nq5, nq6])) | (refine wl_allocR rfl rfl HS.out (by first | exact newE | exact newP | exact newN | exact newQ) ?_; intro gz wz hS9; have HS := hide hS9; clear hS9; (try simp only [Act.put, nq1, nq2, nq3, nq4, nq5, nq6])) | (refine wl_boxR rfl rfl rfl HS.out ?_; intro gz wz hS9; have HS := hide hS9; clear hS9; (try simp only [Act.put, nq1, nq2, nq3, nq4, nq5, nq6])))
  have HS := hide HS.out.drew
  refine wp_region_T [(0, 0), (1, 0), (3, 0), (4, 0), (2, 2), (5, 2), (6, 1), (7, 3)] (by kernel_rfl) (by kernel_rfl) (fun _ _ _ _ h => h) ?_
  refine wpT_loadP rfl rfl rfl rfl HS.out (.tail _ (.head _)) rowN (.all (by first | exact NA.arr ‹_› | exact arr_zN)) ?_; (try simp only [Act.put, nq1, nq2, nq3, nq4, nq5, nq6])
  refine wpT_loadP rfl rfl rfl rfl HS.out (.head _) rowN (.all (by first | exact NA.arr ‹_› | exact arr_zN)) ?_; (try simp only [Act.put, nq1, nq2, nq3, nq4, nq5, nq6])
  refine wpT_loadP rfl rfl rfl rfl HS.out (.tail _ (.head _)) rowN (.all (by first | exact NA.arr ‹_› | exact arr_zN)) ?_; (try simp only [Act.put, nq1, nq2, nq3, nq4, nq5, nq6])
  refine wpT_loadP rfl rfl rfl rfl HS.out (.head _) rowN (.all (by first | exact NA.arr ‹_› | exact arr_zN)) ?_; (try simp only [Act.put, nq1, nq2, nq3, nq4, nq5, nq6])
  refine wpT_callF rfl rfl rfl en33_bs rfl (smallNA1 _) ?_; rintro e wy ⟨z, hz, rfl, hb⟩; refine ⟨_, rfl, hb, ?_⟩; have HS := hide (HS.out.call hb); (try simp only [Act.put, nq1, nq2, nq3, nq4, nq5, nq6])
  refine wpT_callF rfl rfl rfl en34_bs rfl (mulNA _ ‹_› ‹_›) ?_; rintro e wy ⟨z, hz, rfl, hb⟩; refine ⟨_, rfl, hb, ?_⟩; have HS := hide (HS.out.call hb); (try simp only [Act.put, nq1, nq2, nq3, nq4, nq5, nq6])
  refine wpT_pure rfl rfl (fun x => run_build4 rfl rfl rfl rfl rfl buildQ (exN ‹_›) (exN ‹_›) (exN ‹_›) (exN ‹_›) x) ?_; (try simp only [Act.put, nq1, nq2, nq3, nq4, nq5, nq6])
  refine wpT_late rfl rfl ?_; intro K hK; refine wp_storeR rfl rfl rfl HS.out rowQ (.tail (.tail (.head))) (by first | exact arr_zQ | exact QtN.arr ‹_› | exact qN ‹_› ‹_› ‹_› ‹_›) (by first | exact arr_zQ | exact QtN.arr ‹_› | exact qN ‹_› ‹_› ‹_› ‹_›) ?_; intro wz hS9; have HS := hide hS9; clear hS9; refine hK _ _ ?_; (try simp only [Act.put, nq1, nq2, nq3, nq4, nq5, nq6])
  refine wpT_nil ?_
  go_wp2_with fail
  refine bodyPost_ret (results_cell_row rfl _ _ _ _ _ _ _ rfl (HS.out.heapM (by (repeat first | exact .head _ | apply List.Mem.tail))) Tryd.underlying36 rfl (by first | (rw [(EA.arr ‹_›).size]; kernel_rfl) | (rw [(NA.arr ‹_›).size]; kernel_rfl) | (rw [(qE ‹_› ‹_› ‹_› ‹_›).size]; kernel_rfl) | (rw [(qN ‹_› ‹_› ‹_› ‹_›).size]; kernel_rfl) | (rw [(PtN.arr ‹_›).size]; kernel_rfl) | (rw [(PtV.arr ‹_›).size]; kernel_rfl) | (rw [(QtN.arr ‹_›).size]; kernel_rfl))) rfl ?_
  exact ⟨_, ⟨⟨Bp.x, Bp.y, 1, Bp.x * Bp.y⟩, _, _, _, _, rfl, hx, hy, by assumption, by assumption, rp_of Bp⟩, rfl, HS.out.below⟩
theorem zsub (x : FK) : 0 - x = -x := by grind
set_option maxRecDepth 100000 in
set_option maxHeartbeats 1600000 in
theorem negQ {v : Array Value} {P : Ed} (w : World) (hv : QtN v P) : Calls Tryd.prog 20 #[.agg v] w (ResQ w P.neg) := by
  obtain ⟨⟨X, Y, Z, T⟩, a, b, c, d, rfl, h1, h2, h3, h4, h5⟩ := hv.ex
  have hc := na_0
  have HS := hide (St.init w NoB)
  go_enter Tryd.func20, Tryd.ntmps20
  go_wp2_with (first | (refine wl_loadP rfl rfl rfl HS.out (by (repeat first | exact .head _ | apply List.Mem.tail)) (by first | exact rowE | exact rowP | exact rowN | exact rowQ) (by (first | exact .q0 (EA.arr ‹_›) | exact .q1 (EA.arr ‹_›) (EA.arr ‹_›) | exact .q2 (EA.arr ‹_›) (EA.arr ‹_›) (EA.arr ‹_›) | exact .q3 (EA.arr ‹_›) (EA.arr ‹_›) (EA.arr ‹_›) (EA.arr ‹_›) | exact .q0 (NA.arr ‹_›) | exact .q1 (NA.arr ‹_›) (NA.arr ‹_›) | exact .q2 (NA.arr ‹_›) (NA.arr ‹_›) (NA.arr ‹_›) | exact .q3 (NA.arr ‹_›) (NA.arr ‹_›) (NA.arr ‹_›) (NA.arr ‹_›) | exact .all (by (first | exact EA.arr ‹_› | exact NA.arr ‹_› | exact arr_zE | exact arr_zN | exact arr_zP | exact arr_zQ | exact PtN.arr ‹_› | exact PtV.arr ‹_› | exact QtN.arr ‹_› | exact qE ‹_› ‹_› ‹_› ‹_› | exact qN ‹_› ‹_› ‹_› ‹_›)))) ?_; (try simp only [Act.put, nq1, nq2, nq3, nq4, nq5, nq6])) | (refine wl_storeR rfl rfl rfl rfl HS.out (by first | exact rowE | exact rowP | exact rowN | exact rowQ) (by (repeat first | exact .head | apply Upd.tail)) (by (first | exact EA.arr ‹_› | exact NA.arr ‹_› | exact arr_zE | exact arr_zN | exact arr_zP | exact arr_zQ | exact PtN.arr ‹_› | exact PtV.arr ‹_› | exact QtN.arr ‹_› | exact qE ‹_› ‹_› ‹_› ‹_› | exact qN ‹_› ‹_› ‹_› ‹_›)) (by (first | exact EA.arr ‹_› | exact NA.arr ‹_› | exact arr_zE | exact arr_zN | exact arr_zP | exact arr_zQ | exact PtN.arr ‹_› | exact PtV.arr ‹_› | exact QtN.arr ‹_› | exact qE ‹_› ‹_› ‹_› ‹_› | exact qN ‹_› ‹_› ‹_› ‹_›)) ?_; intro wz hS9; have HS := hide hS9; clear hS9; (try simp only [Act.put, nq1, nq2, nq3, nq4, nq5, nq6])) | (refine wl_allocR rfl rfl HS.out (by first | exact newE | exact newP | exact newN | exact newQ) ?_; intro gz wz hS9; have HS := hide hS9; clear hS9; (try simp only [Act.put, nq1, nq2, nq3, nq4, nq5, nq6])) | (refine wl_boxR rfl rfl rfl HS.out ?_; intro gz wz hS9; have HS := hide hS9; clear hS9; (try simp only [Act.put, nq1, nq2, nq3, nq4, nq5, nq6])))
  have HS := hide HS.out.drew
  refine wp_region_T [(0, 1), (1, 1), (2, 0), (4, 1), (5, 0), (6, 1), (7, 0), (8, 1), (9, 1), (10, 0), (3, 2), (11, 2), (12, 1), (13, 3)] (by kernel_rfl) (by kernel_rfl) (fun _ _ _ _ h => h) ?_
  (refine wpT_pure (v := ?_) rfl rfl ?_ ?_; rotate_left; (intro wx; go_simp; try go_bits) <;> (with_reducible rfl)); (try simp only [Act.put, nq1, nq2, nq3, nq4, nq5, nq6])
  (refine wpT_pure (v := ?_) rfl rfl ?_ ?_; rotate_left; (intro wx; go_simp; try go_bits) <;> (with_reducible rfl)); (try simp only [Act.put, nq1, nq2, nq3, nq4, nq5, nq6])
  refine wpT_loadP rfl rfl rfl rfl HS.out (.tail _ (.head _)) rowN (.q0 (NA.arr ‹_›)) ?_; (try simp only [Act.put, nq1, nq2, nq3, nq4, nq5, nq6])
  (refine wpT_pure (v := ?_) rfl rfl ?_ ?_; rotate_left; (intro wx; go_simp; try go_bits) <;> (with_reducible rfl)); (try simp only [Act.put, nq1, nq2, nq3, nq4, nq5, nq6])
  refine wpT_loadP rfl rfl rfl rfl HS.out (.tail _ (.head _)) rowN (.q1 (NA.arr ‹_›) (NA.arr ‹_›)) ?_; (try simp only [Act.put, nq1, nq2, nq3, nq4, nq5, nq6])
  (refine wpT_pure (v := ?_) rfl rfl ?_ ?_; rotate_left; (intro wx; go_simp; try go_bits) <;> (with_reducible rfl)); (try simp only [Act.put, nq1, nq2, nq3, nq4, nq5, nq6])
  refine wpT_loadP rfl rfl rfl rfl HS.out (.tail _ (.head _)) rowN (.q2 (NA.arr ‹_›) (NA.arr ‹_›) (NA.arr ‹_›)) ?_; (try simp only [Act.put, nq1, nq2, nq3, nq4, nq5, nq6])
  (refine wpT_pure (v := ?_) rfl rfl ?_ ?_; rotate_left; (intro wx; go_simp; try go_bits) <;> (with_reducible rfl)); (try simp only [Act.put, nq1, nq2, nq3, nq4, nq5, nq6])
  (refine wpT_pure (v := ?_) rfl rfl ?_ ?_; rotate_left; (intro wx; go_simp; try go_bits) <;> (with_reducible rfl)); (try simp only [Act.put, nq1, nq2, nq3, nq4, nq5, nq6])
  refine wpT_loadP rfl rfl rfl rfl HS.out (.tail _ (.head _)) rowN (.q3 (NA.arr ‹_›) (NA.arr ‹_›) (NA.arr ‹_›) (NA.arr ‹_›)) ?_; (try simp only [Act.put, nq1, nq2, nq3, nq4, nq5, nq6])
  refine wpT_callF rfl rfl rfl en42_nq rfl (subNA _ ‹_› ‹_›) ?_; rintro e wy ⟨z, hz, rfl, hb⟩; refine ⟨_, rfl, hb, ?_⟩; have HS := hide (HS.out.call hb); (try simp only [Act.put, nq1, nq2, nq3, nq4, nq5, nq6])
  refine wpT_callF rfl rfl rfl en42_nq rfl (subNA _ ‹_› ‹_›) ?_; rintro e wy ⟨z, hz, rfl, hb⟩; refine ⟨_, rfl, hb, ?_⟩; have HS := hide (HS.out.call hb); (try simp only [Act.put, nq1, nq2, nq3, nq4, nq5, nq6])
  refine wpT_pure rfl rfl (fun x => run_build4 rfl rfl rfl rfl rfl buildQ (exN ‹_›) (exN ‹_›) (exN ‹_›) (exN ‹_›) x) ?_; (try simp only [Act.put, nq1, nq2, nq3, nq4, nq5, nq6])
  refine wpT_late rfl rfl ?_; intro K hK; refine wp_storeR rfl rfl rfl HS.out rowQ (.head) (by first | exact arr_zQ | exact QtN.arr ‹_› | exact qN ‹_› ‹_› ‹_› ‹_›) (by first | exact arr_zQ | exact QtN.arr ‹_› | exact qN ‹_› ‹_› ‹_› ‹_›) ?_; intro wz hS9; have HS := hide hS9; clear hS9; refine hK _ _ ?_; (try simp only [Act.put, nq1, nq2, nq3, nq4, nq5, nq6])
  refine wpT_nil ?_
  go_wp2_with fail
  refine bodyPost_ret (results_cell_row rfl _ _ _ _ _ _ _ rfl (HS.out.heapM (by (repeat first | exact .head _ | apply List.Mem.tail))) Tryd.underlying36 rfl (by first | (rw [(EA.arr ‹_›).size]; kernel_rfl) | (rw [(NA.arr ‹_›).size]; kernel_rfl) | (rw [(qE ‹_› ‹_› ‹_› ‹_›).size]; kernel_rfl) | (rw [(qN ‹_› ‹_› ‹_› ‹_›).size]; kernel_rfl) | (rw [(PtN.arr ‹_›).size]; kernel_rfl) | (rw [(PtV.arr ‹_›).size]; kernel_rfl) | (rw [(QtN.arr ‹_›).size]; kernel_rfl))) rfl ?_
  exact ⟨_, ⟨⟨-X, Y, Z, -T⟩, _, _, _, _, rfl, by rw [← zsub]; assumption, h2, h3, by rw [← zsub]; assumption, rp_neg h5⟩, rfl, HS.out.below⟩
theorem plJ_page (A B : Pj) : plJ A B =
  ⟨((A.Y + A.X) * (B.Y + B.X) - (A.Y - A.X) * (B.Y - B.X)) * (A.Z * B.Z + A.Z * B.Z - A.T * B.T * (dF + dF)),
   ((A.Y + A.X) * (B.Y + B.X) + (A.Y - A.X) * (B.Y - B.X)) * (A.Z * B.Z + A.Z * B.Z + A.T * B.T * (dF + dF)),
   (A.Z * B.Z + A.Z * B.Z + A.T * B.T * (dF + dF)) * (A.Z * B.Z + A.Z * B.Z - A.T * B.T * (dF + dF)),
   ((A.Y + A.X) * (B.Y + B.X) - (A.Y - A.X) * (B.Y - B.X)) * ((A.Y + A.X) * (B.Y + B.X) + (A.Y - A.X) * (B.Y - B.X))⟩ := by
  unfold plJ
  congr 1 <;> grind
set_option maxRecDepth 100000 in
set_option maxHeartbeats 6400000 in
theorem plusQ {u v : Array Value} {P Q : Ed} (w : World) (hu : QtN u P) (hv : QtN v Q) : Calls Tryd.prog 18 #[.agg u, .agg v] w (ResQ w (P.add Q)) := by
  obtain ⟨⟨X, Y, Z, T⟩, a, b, c, d, rfl, h1, h2, h3, h4, h5⟩ := hu.ex
  obtain ⟨⟨X', Y', Z', T'⟩, a', b', c', d', rfl, g1, g2, g3, g4, g5⟩ := hv.ex
  have HS := hide (St.init w NoB)
  go_enter Tryd.func18, Tryd.ntmps18
  go_wp2_with (first | (refine wl_loadP rfl rfl rfl HS.out (by (repeat first | exact .head _ | apply List.Mem.tail)) (by first | exact rowE | exact rowP | exact rowN | exact rowQ) (by (first | exact .q0 (EA.arr ‹_›) | exact .q1 (EA.arr ‹_›) (EA.arr ‹_›) | exact .q2 (EA.arr ‹_›) (EA.arr ‹_›) (EA.arr ‹_›) | exact .q3 (EA.arr ‹_›) (EA.arr ‹_›) (EA.arr ‹_›) (EA.arr ‹_›) | exact .q0 (NA.arr ‹_›) | exact .q1 (NA.arr ‹_›) (NA.arr ‹_›) | exact .q2 (NA.arr ‹_›) (NA.arr ‹_›) (NA.arr ‹_›) | exact .q3 (NA.arr ‹_›) (NA.arr ‹_›) (NA.arr ‹_›) (NA.arr ‹_›) | exact .all (by (first | exact EA.arr ‹_› | exact NA.arr ‹_› | exact arr_zE | exact arr_zN | exact arr_zP | exact arr_zQ | exact PtN.arr ‹_› | exact PtV.arr ‹_› | exact QtN.arr ‹_› | exact qE ‹_› ‹_› ‹_› ‹_› | exact qN ‹_› ‹_› ‹_› ‹_›)))) ?_; (try simp only [Act.put, nq1, nq2, nq3, nq4, nq5, nq6])) | (refine wl_storeR rfl rfl rfl rfl HS.out (by first | exact rowE | exact rowP | exact rowN | exact rowQ) (by (repeat first | exact .head | apply Upd.tail)) (by (first | exact EA.arr ‹_› | exact NA.arr ‹_› | exact arr_zE | exact arr_zN | exact arr_zP | exact arr_zQ | exact PtN.arr ‹_› | exact PtV.arr ‹_› | exact QtN.arr ‹_› | exact qE ‹_› ‹_› ‹_› ‹_› | exact qN ‹_› ‹_› ‹_› ‹_›)) (by (first | exact EA.arr ‹_› | exact NA.arr ‹_› | exact arr_zE | exact arr_zN | exact arr_zP | exact arr_zQ | exact PtN.arr ‹_› | exact PtV.arr ‹_› | exact QtN.arr ‹_› | exact qE ‹_› ‹_› ‹_› ‹_› | exact qN ‹_› ‹_› ‹_› ‹_›)) ?_; intro wz hS9; have HS := hide hS9; clear hS9; (try simp only [Act.put, nq1, nq2, nq3, nq4, nq5, nq6])) | (refine wl_allocR rfl rfl HS.out (by first | exact newE | exact newP | exact newN | exact newQ) ?_; intro gz wz hS9; have HS := hide hS9; clear hS9; (try simp only [Act.put, nq1, nq2, nq3, nq4, nq5, nq6])) | (refine wl_boxR rfl rfl rfl HS.out ?_; intro gz wz hS9; have HS := hide hS9; clear hS9; (try simp only [Act.put, nq1, nq2, nq3, nq4, nq5, nq6])))
  have HS := hide HS.out.drew
  refine wp_region_XE [(11, 5)] [(0, 1), (1, 0), (2, 1), (3, 0), (5, 1), (6, 0), (7, 1), (8, 0), (4, 2), (9, 2), (10, 2)] (.op 12 2 (.nil)) zN 34 (by kernel_rfl) (by kernel_rfl) (by kernel_rfl) (by intro p hp; simp only [List.mem_cons, List.not_mem_nil, or_false] at hp; subst hp <;> exact flOp_of rfl rfl rfl (fun ev x => run_allocR rfl newN ev x)) (fun _ _ _ _ h => h) ?_
  (refine wpX_pure (v := ?_) rfl rfl ?_ ?_; rotate_left; (intro wx; go_simp; try go_bits) <;> (with_reducible rfl)); (try simp only [Act.put, nq1, nq2, nq3, nq4, nq5, nq6])
  refine wpX_loadP rfl rfl rfl rfl HS.out (.tail _ (.tail _ (.head _))) rowN (.q1 (NA.arr ‹_›) (NA.arr ‹_›)) ?_; (try simp only [Act.put, nq1, nq2, nq3, nq4, nq5, nq6])
  (refine wpX_pure (v := ?_) rfl rfl ?_ ?_; rotate_left; (intro wx; go_simp; try go_bits) <;> (with_reducible rfl)); (try simp only [Act.put, nq1, nq2, nq3, nq4, nq5, nq6])
  refine wpX_loadP rfl rfl rfl rfl HS.out (.tail _ (.tail _ (.head _))) rowN (.q0 (NA.arr ‹_›)) ?_; (try simp only [Act.put, nq1, nq2, nq3, nq4, nq5, nq6])
  (refine wpX_pure (v := ?_) rfl rfl ?_ ?_; rotate_left; (intro wx; go_simp; try go_bits) <;> (with_reducible rfl)); (try simp only [Act.put, nq1, nq2, nq3, nq4, nq5, nq6])
  refine wpX_loadP rfl rfl rfl rfl HS.out (.tail _ (.head _)) rowN (.q1 (NA.arr ‹_›) (NA.arr ‹_›)) ?_; (try simp only [Act.put, nq1, nq2, nq3, nq4, nq5, nq6])
  (refine wpX_pure (v := ?_) rfl rfl ?_ ?_; rotate_left; (intro wx; go_simp; try go_bits) <;> (with_reducible rfl)); (try simp only [Act.put, nq1, nq2, nq3, nq4, nq5, nq6])
  refine wpX_loadP rfl rfl rfl rfl HS.out (.tail _ (.head _)) rowN (.q0 (NA.arr ‹_›)) ?_; (try simp only [Act.put, nq1, nq2, nq3, nq4, nq5, nq6])
  refine wpX_callF rfl rfl rfl en42_pq rfl (fun x => subNA x ‹_› ‹_›) ?_; rintro xw e wy ⟨z, hz, rfl, hb⟩; refine ⟨_, rfl, hb, ?_⟩; (try simp only [Act.put, nq1, nq2, nq3, nq4, nq5, nq6])
  refine wpX_callF rfl rfl rfl en42_pq rfl (fun x => subNA x ‹_› ‹_›) ?_; rintro xw e wy ⟨z, hz, rfl, hb⟩; refine ⟨_, rfl, hb, ?_⟩; (try simp only [Act.put, nq1, nq2, nq3, nq4, nq5, nq6])
  refine wpX_callF rfl rfl rfl en34_pq rfl (fun x => mulNA x ‹_› ‹_›) ?_; rintro xw e wy ⟨z, hz, rfl, hb⟩; refine ⟨_, rfl, hb, ?_⟩; (try simp only [Act.put, nq1, nq2, nq3, nq4, nq5, nq6])
  refine wpX_nil ?_; intro G xz hx0 hx hF; have hS9 := HS.out.floats hx0 hF _ (by decide) (fun _ h => h); simp only [List.map_cons, List.map_nil, List.cons_append, List.nil_append] at hS9; have HS := hide hS9; have HX := hide hx0; have HG := hide hF.at_; clear hS9 hF hx0 hx; simp only [putsE, List.foldl_cons, List.foldl_nil]; (try simp only [Act.put, nq1, nq2, nq3, nq4, nq5, nq6])
  refine wpS_storeF rfl rfl rfl rfl rfl HS.out HX.out (HG.out 11 (by simp)).1 rowN (.head) (by first | exact NA.arr ‹_› | exact arr_zN) (by first | exact NA.arr ‹_› | exact arr_zN) ?_; intro wz hS9 hX9; have HS := hide hS9; have HX := hide hX9; clear hS9 hX9; (try simp only [Act.put, nq1, nq2, nq3, nq4, nq5, nq6])
  refine wpS_nil ?_
  go_wp2_with fail
  have HS := hide HS.out.drew
  refine wp_region_XE [(11, 6)] [(0, 1), (1, 0), (2, 1), (3, 0), (5, 1), (6, 0), (7, 1), (8, 0), (4, 2), (9, 2), (10, 2)] (.op 12 2 (.nil)) zN 34 (by kernel_rfl) (by kernel_rfl) (by kernel_rfl) (by intro p hp; simp only [List.mem_cons, List.not_mem_nil, or_false] at hp; subst hp <;> exact flOp_of rfl rfl rfl (fun ev x => run_allocR rfl newN ev x)) (fun _ _ _ _ h => h) ?_
  (refine wpX_pure (v := ?_) rfl rfl ?_ ?_; rotate_left; (intro wx; go_simp; try go_bits) <;> (with_reducible rfl)); (try simp only [Act.put, nq1, nq2, nq3, nq4, nq5, nq6])
  refine wpX_loadP rfl rfl rfl rfl HS.out (.tail _ (.tail _ (.tail _ (.head _)))) rowN (.q1 (NA.arr ‹_›) (NA.arr ‹_›)) ?_; (try simp only [Act.put, nq1, nq2, nq3, nq4, nq5, nq6])
  (refine wpX_pure (v := ?_) rfl rfl ?_ ?_; rotate_left; (intro wx; go_simp; try go_bits) <;> (with_reducible rfl)); (try simp only [Act.put, nq1, nq2, nq3, nq4, nq5, nq6])
  refine wpX_loadP rfl rfl rfl rfl HS.out (.tail _ (.tail _ (.tail _ (.head _)))) rowN (.q0 (NA.arr ‹_›)) ?_; (try simp only [Act.put, nq1, nq2, nq3, nq4, nq5, nq6])
  (refine wpX_pure (v := ?_) rfl rfl ?_ ?_; rotate_left; (intro wx; go_simp; try go_bits) <;> (with_reducible rfl)); (try simp only [Act.put, nq1, nq2, nq3, nq4, nq5, nq6])
  refine wpX_loadP rfl rfl rfl rfl HS.out (.tail _ (.tail _ (.head _))) rowN (.q1 (NA.arr ‹_›) (NA.arr ‹_›)) ?_; (try simp only [Act.put, nq1, nq2, nq3, nq4, nq5, nq6])
  (refine wpX_pure (v := ?_) rfl rfl ?_ ?_; rotate_left; (intro wx; go_simp; try go_bits) <;> (with_reducible rfl)); (try simp only [Act.put, nq1, nq2, nq3, nq4, nq5, nq6])
  refine wpX_loadP rfl rfl rfl rfl HS.out (.tail _ (.tail _ (.head _))) rowN (.q0 (NA.arr ‹_›)) ?_; (try simp only [Act.put, nq1, nq2, nq3, nq4, nq5, nq6])
  refine wpX_callF rfl rfl rfl en43_pq rfl (fun x => addNA x ‹_› ‹_›) ?_; rintro xw e wy ⟨z, hz, rfl, hb⟩; refine ⟨_, rfl, hb, ?_⟩; (try simp only [Act.put, nq1, nq2, nq3, nq4, nq5, nq6])
  refine wpX_callF rfl rfl rfl en43_pq rfl (fun x => addNA x ‹_› ‹_›) ?_; rintro xw e wy ⟨z, hz, rfl, hb⟩; refine ⟨_, rfl, hb, ?_⟩; (try simp only [Act.put, nq1, nq2, nq3, nq4, nq5, nq6])
  refine wpX_callF rfl rfl rfl en34_pq rfl (fun x => mulNA x ‹_› ‹_›) ?_; rintro xw e wy ⟨z, hz, rfl, hb⟩; refine ⟨_, rfl, hb, ?_⟩; (try simp only [Act.put, nq1, nq2, nq3, nq4, nq5, nq6])
  refine wpX_nil ?_; intro G xz hx0 hx hF; have hS9 := HS.out.floats hx0 hF _ (by decide) (fun _ h => h); simp only [List.map_cons, List.map_nil, List.cons_append, List.nil_append] at hS9; have HS := hide hS9; have HX := hide hx0; have HG := hide hF.at_; clear hS9 hF hx0 hx; simp only [putsE, List.foldl_cons, List.foldl_nil]; (try simp only [Act.put, nq1, nq2, nq3, nq4, nq5, nq6])
  refine wpS_storeF rfl rfl rfl rfl rfl HS.out HX.out (HG.out 11 (by simp)).1 rowN (.head) (by first | exact NA.arr ‹_› | exact arr_zN) (by first | exact NA.arr ‹_› | exact arr_zN) ?_; intro wz hS9 hX9; have HS := hide hS9; have HX := hide hX9; clear hS9 hX9; (try simp only [Act.put, nq1, nq2, nq3, nq4, nq5, nq6])
  refine wpS_nil ?_
  go_wp2_with (first | (go_at_call 44; (with_reducible refine (dNA _).mono ?_); rintro e wy ⟨z, hz, rfl, hb⟩; have HS := hide (HS.out.call hb)) | (go_at_call 34; (with_reducible refine (mulNA _ (by assumption) (by assumption)).mono ?_); rintro e wy ⟨z, hz, rfl, hb⟩; try have HS := hide (HS.out.call hb)) | (go_at_call 43; (with_reducible refine (addNA _ (by assumption) (by assumption)).mono ?_); rintro e wy ⟨z, hz, rfl, hb⟩; try have HS := hide (HS.out.call hb)) | (go_at_call 42; (with_reducible refine (subNA _ (by assumption) (by assumption)).mono ?_); rintro e wy ⟨z, hz, rfl, hb⟩; try have HS := hide (HS.out.call hb)) | (go_at_call 39; (with_reducible refine (invNA _ (by assumption)).mono ?_); rintro e wy ⟨z, hz, rfl, hb⟩; try have HS := hide (HS.out.call hb)) | (go_at_call 33; (with_reducible refine (smallNA1 _).mono ?_); rintro e wy ⟨z, hz, rfl, hb⟩; try have HS := hide (HS.out.call hb)) | (refine wl_loadP rfl rfl rfl HS.out (.tail _ (.tail _ (.tail _ (.tail _ (.head _))))) rowN (.q3 (NA.arr ‹_›) (NA.arr ‹_›) (NA.arr ‹_›) (NA.arr ‹_›)) ?_; (try simp only [Act.put, nq1, nq2, nq3, nq4, nq5, nq6])) | (refine wl_loadP rfl rfl rfl HS.out (.tail _ (.tail _ (.tail _ (.head _)))) rowN (.q3 (NA.arr ‹_›) (NA.arr ‹_›) (NA.arr ‹_›) (NA.arr ‹_›)) ?_; (try simp only [Act.put, nq1, nq2, nq3, nq4, nq5, nq6])) | (refine wl_storeR rfl rfl rfl rfl HS.out rowN (.head) (by first | exact NA.arr ‹_› | exact arr_zN) (by first | exact NA.arr ‹_› | exact arr_zN) ?_; intro wz hS9; have HS := hide hS9; clear hS9; (try simp only [Act.put, nq1, nq2, nq3, nq4, nq5, nq6])) | (refine wl_loadP rfl rfl rfl HS.out (.tail _ (.tail _ (.tail _ (.tail _ (.tail _ (.head _)))))) rowN (.q2 (NA.arr ‹_›) (NA.arr ‹_›) (NA.arr ‹_›)) ?_; (try simp only [Act.put, nq1, nq2, nq3, nq4, nq5, nq6])) | (refine wl_loadP rfl rfl rfl HS.out (.tail _ (.tail _ (.tail _ (.tail _ (.head _))))) rowN (.q2 (NA.arr ‹_›) (NA.arr ‹_›) (NA.arr ‹_›)) ?_; (try simp only [Act.put, nq1, nq2, nq3, nq4, nq5, nq6])) | (refine wl_loadP rfl rfl rfl HS.out (.head _) rowN (.all (by first | exact NA.arr ‹_› | exact arr_zN)) ?_; (try simp only [Act.put, nq1, nq2, nq3, nq4, nq5, nq6])) | (refine wl_allocR rfl rfl HS.out newN ?_; intro gz wz hS9; have HS := hide hS9; clear hS9; (try simp only [Act.put, nq1, nq2, nq3, nq4, nq5, nq6])))
  have HS := hide HS.out.drew
  refine wp_region_XE [(12, 9), (13, 10), (14, 11), (15, 12)] [(0, 0), (1, 0), (3, 0), (4, 0), (6, 0), (7, 0), (9, 0), (10, 0), (2, 2), (5, 2), (8, 2), (11, 2)] (.op 16 2 (.op 17 2 (.op 18 2 (.op 19 2 (.nil))))) zN 34 (by kernel_rfl) (by kernel_rfl) (by kernel_rfl) (by intro p hp; simp only [List.mem_cons, List.not_mem_nil, or_false] at hp; rcases hp with rfl | rfl | rfl | rfl <;> exact flOp_of rfl rfl rfl (fun ev x => run_allocR rfl newN ev x)) (fun _ _ _ _ h => h) ?_
  refine wpX_loadP rfl rfl rfl rfl HS.out (.tail _ (.tail _ (.head _))) rowN (.all (by first | exact NA.arr ‹_› | exact arr_zN)) ?_; (try simp only [Act.put, nq1, nq2, nq3, nq4, nq5, nq6])
  refine wpX_loadP rfl rfl rfl rfl HS.out (.tail _ (.tail _ (.tail _ (.head _)))) rowN (.all (by first | exact NA.arr ‹_› | exact arr_zN)) ?_; (try simp only [Act.put, nq1, nq2, nq3, nq4, nq5, nq6])
  refine wpX_loadP rfl rfl rfl rfl HS.out (.head _) rowN (.all (by first | exact NA.arr ‹_› | exact arr_zN)) ?_; (try simp only [Act.put, nq1, nq2, nq3, nq4, nq5, nq6])
  refine wpX_loadP rfl rfl rfl rfl HS.out (.tail _ (.head _)) rowN (.all (by first | exact NA.arr ‹_› | exact arr_zN)) ?_; (try simp only [Act.put, nq1, nq2, nq3, nq4, nq5, nq6])
  refine wpX_loadP rfl rfl rfl rfl HS.out (.head _) rowN (.all (by first | exact NA.arr ‹_› | exact arr_zN)) ?_; (try simp only [Act.put, nq1, nq2, nq3, nq4, nq5, nq6])
  refine wpX_loadP rfl rfl rfl rfl HS.out (.tail _ (.head _)) rowN (.all (by first | exact NA.arr ‹_› | exact arr_zN)) ?_; (try simp only [Act.put, nq1, nq2, nq3, nq4, nq5, nq6])
  refine wpX_loadP rfl rfl rfl rfl HS.out (.tail _ (.tail _ (.head _))) rowN (.all (by first | exact NA.arr ‹_› | exact arr_zN)) ?_; (try simp only [Act.put, nq1, nq2, nq3, nq4, nq5, nq6])
  refine wpX_loadP rfl rfl rfl rfl HS.out (.tail _ (.tail _ (.tail _ (.head _)))) rowN (.all (by first | exact NA.arr ‹_› | exact arr_zN)) ?_; (try simp only [Act.put, nq1, nq2, nq3, nq4, nq5, nq6])
  refine wpX_callF rfl rfl rfl en42_pq rfl (fun x => subNA x ‹_› ‹_›) ?_; rintro xw e wy ⟨z, hz, rfl, hb⟩; refine ⟨_, rfl, hb, ?_⟩; (try simp only [Act.put, nq1, nq2, nq3, nq4, nq5, nq6])
  refine wpX_callF rfl rfl rfl en42_pq rfl (fun x => subNA x ‹_› ‹_›) ?_; rintro xw e wy ⟨z, hz, rfl, hb⟩; refine ⟨_, rfl, hb, ?_⟩; (try simp only [Act.put, nq1, nq2, nq3, nq4, nq5, nq6])
  refine wpX_callF rfl rfl rfl en43_pq rfl (fun x => addNA x ‹_› ‹_›) ?_; rintro xw e wy ⟨z, hz, rfl, hb⟩; refine ⟨_, rfl, hb, ?_⟩; (try simp only [Act.put, nq1, nq2, nq3, nq4, nq5, nq6])
  refine wpX_callF rfl rfl rfl en43_pq rfl (fun x => addNA x ‹_› ‹_›) ?_; rintro xw e wy ⟨z, hz, rfl, hb⟩; refine ⟨_, rfl, hb, ?_⟩; (try simp only [Act.put, nq1, nq2, nq3, nq4, nq5, nq6])
  refine wpX_nil ?_; intro G xz hx0 hx hF; have hS9 := HS.out.floats hx0 hF _ (by decide) (fun _ h => h); simp only [List.map_cons, List.map_nil, List.cons_append, List.nil_append] at hS9; have HS := hide hS9; have HX := hide hx0; have HG := hide hF.at_; clear hS9 hF hx0 hx; simp only [putsE, List.foldl_cons, List.foldl_nil]; (try simp only [Act.put, nq1, nq2, nq3, nq4, nq5, nq6])
  refine wpS_storeF rfl rfl rfl rfl rfl HS.out HX.out (HG.out 12 (by simp)).1 rowN (.head) (by first | exact NA.arr ‹_› | exact arr_zN) (by first | exact NA.arr ‹_› | exact arr_zN) ?_; intro wz hS9 hX9; have HS := hide hS9; have HX := hide hX9; clear hS9 hX9; (try simp only [Act.put, nq1, nq2, nq3, nq4, nq5, nq6])
  refine wpS_storeF rfl rfl rfl rfl rfl HS.out HX.out (HG.out 13 (by simp)).1 rowN (.tail (.head)) (by first | exact NA.arr ‹_› | exact arr_zN) (by first | exact NA.arr ‹_› | exact arr_zN) ?_; intro wz hS9 hX9; have HS := hide hS9; have HX := hide hX9; clear hS9 hX9; (try simp only [Act.put, nq1, nq2, nq3, nq4, nq5, nq6])
  refine wpS_storeF rfl rfl rfl rfl rfl HS.out HX.out (HG.out 14 (by simp)).1 rowN (.tail (.tail (.head))) (by first | exact NA.arr ‹_› | exact arr_zN) (by first | exact NA.arr ‹_› | exact arr_zN) ?_; intro wz hS9 hX9; have HS := hide hS9; have HX := hide hX9; clear hS9 hX9; (try simp only [Act.put, nq1, nq2, nq3, nq4, nq5, nq6])
  refine wpS_storeF rfl rfl rfl rfl rfl HS.out HX.out (HG.out 15 (by simp)).1 rowN (.tail (.tail (.tail (.head)))) (by first | exact NA.arr ‹_› | exact arr_zN) (by first | exact NA.arr ‹_› | exact arr_zN) ?_; intro wz hS9 hX9; have HS := hide hS9; have HX := hide hX9; clear hS9 hX9; (try simp only [Act.put, nq1, nq2, nq3, nq4, nq5, nq6])
  refine wpS_nil ?_
  go_wp2_with fail
  have HS := hide HS.out.drew
  refine wp_region_T [(0, 0), (1, 0), (3, 0), (4, 0), (6, 0), (7, 0), (9, 0), (10, 0), (2, 2), (5, 2), (8, 2), (11, 2), (12, 1), (13, 3)] (by kernel_rfl) (by kernel_rfl) (fun _ _ _ _ h => h) ?_
  refine wpT_loadP rfl rfl rfl rfl HS.out (.head _) rowN (.all (by first | exact NA.arr ‹_› | exact arr_zN)) ?_; (try simp only [Act.put, nq1, nq2, nq3, nq4, nq5, nq6])
  refine wpT_loadP rfl rfl rfl rfl HS.out (.tail _ (.head _)) rowN (.all (by first | exact NA.arr ‹_› | exact arr_zN)) ?_; (try simp only [Act.put, nq1, nq2, nq3, nq4, nq5, nq6])
  refine wpT_loadP rfl rfl rfl rfl HS.out (.tail _ (.tail _ (.tail _ (.head _)))) rowN (.all (by first | exact NA.arr ‹_› | exact arr_zN)) ?_; (try simp only [Act.put, nq1, nq2, nq3, nq4, nq5, nq6])
  refine wpT_loadP rfl rfl rfl rfl HS.out (.tail _ (.tail _ (.head _))) rowN (.all (by first | exact NA.arr ‹_› | exact arr_zN)) ?_; (try simp only [Act.put, nq1, nq2, nq3, nq4, nq5, nq6])
  refine wpT_loadP rfl rfl rfl rfl HS.out (.tail _ (.tail _ (.head _))) rowN (.all (by first | exact NA.arr ‹_› | exact arr_zN)) ?_; (try simp only [Act.put, nq1, nq2, nq3, nq4, nq5, nq6])
  refine wpT_loadP rfl rfl rfl rfl HS.out (.tail _ (.head _)) rowN (.all (by first | exact NA.arr ‹_› | exact arr_zN)) ?_; (try simp only [Act.put, nq1, nq2, nq3, nq4, nq5, nq6])
  refine wpT_loadP rfl rfl rfl rfl HS.out (.head _) rowN (.all (by first | exact NA.arr ‹_› | exact arr_zN)) ?_; (try simp only [Act.put, nq1, nq2, nq3, nq4, nq5, nq6])
  refine wpT_loadP rfl rfl rfl rfl HS.out (.tail _ (.tail _ (.tail _ (.head _)))) rowN (.all (by first | exact NA.arr ‹_› | exact arr_zN)) ?_; (try simp only [Act.put, nq1, nq2, nq3, nq4, nq5, nq6])
  refine wpT_callF rfl rfl rfl en34_pq rfl (mulNA _ ‹_› ‹_›) ?_; rintro e wy ⟨z, hz, rfl, hb⟩; refine ⟨_, rfl, hb, ?_⟩; have HS := hide (HS.out.call hb); (try simp only [Act.put, nq1, nq2, nq3, nq4, nq5, nq6])
  refine wpT_callF rfl rfl rfl en34_pq rfl (mulNA _ ‹_› ‹_›) ?_; rintro e wy ⟨z, hz, rfl, hb⟩; refine ⟨_, rfl, hb, ?_⟩; have HS := hide (HS.out.call hb); (try simp only [Act.put, nq1, nq2, nq3, nq4, nq5, nq6])
  refine wpT_callF rfl rfl rfl en34_pq rfl (mulNA _ ‹_› ‹_›) ?_; rintro e wy ⟨z, hz, rfl, hb⟩; refine ⟨_, rfl, hb, ?_⟩; have HS := hide (HS.out.call hb); (try simp only [Act.put, nq1, nq2, nq3, nq4, nq5, nq6])
  refine wpT_callF rfl rfl rfl en34_pq rfl (mulNA _ ‹_› ‹_›) ?_; rintro e wy ⟨z, hz, rfl, hb⟩; refine ⟨_, rfl, hb, ?_⟩; have HS := hide (HS.out.call hb); (try simp only [Act.put, nq1, nq2, nq3, nq4, nq5, nq6])
  refine wpT_pure rfl rfl (fun x => run_build4 rfl rfl rfl rfl rfl buildQ (exN ‹_›) (exN ‹_›) (exN ‹_›) (exN ‹_›) x) ?_; (try simp only [Act.put, nq1, nq2, nq3, nq4, nq5, nq6])
  refine wpT_late rfl rfl ?_; intro K hK; refine wp_storeR rfl rfl rfl HS.out rowQ (.tail (.tail (.tail (.tail (.tail (.tail (.tail (.tail (.head))))))))) (by first | exact arr_zQ | exact QtN.arr ‹_› | exact qN ‹_› ‹_› ‹_› ‹_›) (by first | exact arr_zQ | exact QtN.arr ‹_› | exact qN ‹_› ‹_› ‹_› ‹_›) ?_; intro wz hS9; have HS := hide hS9; clear hS9; refine hK _ _ ?_; (try simp only [Act.put, nq1, nq2, nq3, nq4, nq5, nq6])
  refine wpT_nil ?_
  go_wp2_with fail
  refine bodyPost_ret (results_cell_row rfl _ _ _ _ _ _ _ rfl (HS.out.heapM (by (repeat first | exact .head _ | apply List.Mem.tail))) Tryd.underlying36 rfl (by first | (rw [(EA.arr ‹_›).size]; kernel_rfl) | (rw [(NA.arr ‹_›).size]; kernel_rfl) | (rw [(qE ‹_› ‹_› ‹_› ‹_›).size]; kernel_rfl) | (rw [(qN ‹_› ‹_› ‹_› ‹_›).size]; kernel_rfl) | (rw [(PtN.arr ‹_›).size]; kernel_rfl) | (rw [(PtV.arr ‹_›).size]; kernel_rfl) | (rw [(QtN.arr ‹_›).size]; kernel_rfl))) rfl ?_
  have hr := rp_plus h5 g5
  rw [plJ_page] at hr
  exact ⟨_, ⟨_, _, _, _, _, rfl, by assumption, by assumption, by assumption, by assumption, hr⟩, rfl, HS.out.below⟩
end Go.Proofs.YtgahjjdbpjgemaaDoor

/-
  Layer 4: the page's half (a power).
-/
namespace Go.Proofs.YtgahjjdbpjgemaaDoor
open Go.RowKit
set_option linter.unusedSimpArgs false
/-! The page's half. -/
def halfE : Nat := 2 ^ 252 - 3
def halfB (i : Nat) : List Bool := (List.range 255).map (fun j => decide (j < i ∧ j < 252 ∧ j ≠ 1))
theorem halfB_len (i : Nat) : (halfB i).length = 255 := by simp [halfB]
theorem halfB_get (i k : Nat) (h : k < 255) : (halfB i)[k]? = some (decide (k < i ∧ k < 252 ∧ k ≠ 1)) := by
  unfold halfB
  rw [List.getElem?_map, List.getElem?_range h]
  rfl
theorem halfB_set (i : Nat) (h : i < 255) : (halfB i).set i (decide (i < 252 ∧ i ≠ 1)) = halfB (i + 1) := by
  apply List.ext_getElem?
  intro k
  rcases Nat.lt_or_ge k 255 with hk | hk
  · rw [halfB_get _ _ hk, List.getElem?_set]
    split
    · rename_i e
      subst e
      rw [if_pos (by rw [halfB_len]; exact hk)]
      congr 1
      rw [decide_eq_decide]
      omega
    · rw [halfB_get _ _ hk]
      congr 1
      rw [decide_eq_decide]
      omega
  · rw [List.getElem?_eq_none (by rw [List.length_set, halfB_len]; exact hk), List.getElem?_eq_none (by rw [halfB_len]; exact hk)]
theorem halfBE : bitE (halfB 255) 255 = halfE := by unfold halfE; decide +kernel
def HvRel (w : World) (xs : List Int) (iv : Value) (wr : World) : Prop :=
  ∃ i : Nat, i ≤ 255 ∧ iv = .int .i64 (i : Int) ∧ St w NoB wr [.cells (w.heap.size + 2) (blv (halfB i)).toArray 96, .cells (w.heap.size + 1) (ivs (List.replicate 16 0)).toArray 34, .cells w.heap.size (ivs xs).toArray 34]
theorem zero255h (W : World) : (zeroValue 96).run Tryd.prog W = .ok (.agg (blv (halfB 0)).toArray) W := by kernel_rfl
theorem enPowerNh (args : Array Value) (w : World) : (callFunc 66 args).run Tryd.prog w = .ok (.enter 66 args) w := by kernel_rfl
set_option maxRecDepth 100000 in
set_option maxHeartbeats 1600000 in
theorem halfN_any (xs : List Int) (X : FK) (w : World) (h : NE xs X) :
    Calls Tryd.prog 69 #[.agg (ivs xs).toArray] w (ResN w (fpw X halfE)) := by
  have HN := hide h
  have HP := hide (fun W => powerN_any xs X (halfB 255) W h (halfB_len 255))
  rw [halfBE] at HP
  have hS0 := (((St.init w NoB).alloc (ivs xs).toArray 34).alloc (ivs (List.replicate 16 0)).toArray 34).alloc (blv (halfB 0)).toArray 96
  rw [size_alloc1, size_alloc1] at hS0
  have HS0 := hide hS0
  have hz := zero255h
  clear hS0 h
  go_enter Tryd.func69, Tryd.ntmps69
  go_wp2_with fail
  go_loopw [5] (fun i wr => HvRel w xs i wr) (fun i _ => 255 - (intOf i).toNat)
  case atStart => exact ⟨0, by omega, rfl, HS0.out⟩
  case round =>
    clear HS0 hz
    obtain ⟨i, hi, rfl, hS⟩ := hrel
    have HS := hide hS
    by_cases hlt : i < 255
    · have d255 : decide ((i : Int) < 255) = true := by simp; omega
      have i255 : (i : Int) < 255 := by omega
      have c0 : wr.cell? ⟨w.heap.size + 2, i, none⟩ = some (.bool (decide (i < i ∧ i < 252 ∧ i ≠ 1))) := by rw [hS.cell 0 rfl i]; exact blv_get (halfB_get i i hlt)
      have f0 := hS.free 0 rfl i
      have HT := hide (halfB_set i hlt)
      clear hS
      by_cases h2 : i = 1
      · subst h2
        go_wp2_with fail
        go_roundw
        case rel =>
          have h3 := HS.out.setCell 0 rfl 1 (.bool false)
          rw [List.set_cons_zero, blv_set] at h3
          exact ⟨2, by omega, rfl, by have := HT.out; rw [show decide ((1 : Nat) < 252 ∧ (1 : Nat) ≠ 1) = false from by decide] at this; rw [← this]; exact h3⟩
        case measure => (simp [intOf]) <;> omega
      · by_cases h4 : i < 252
        · have e4' : decide ((i : Int) < 252) = true := by simp; omega
          have n4 : (i : Int) < 252 := by omega
          have n2 : ¬ (i : Int) = 1 := by omega
          have e2 : ((i : Int) != 1) = true := by simp; omega
          have e2' : decide ((i : Int) = 1) = false := by simp; omega
          have HT2 := hide (show (halfB i).set i true = halfB (i + 1) by have := HT.out; rw [show decide (i < 252 ∧ i ≠ 1) = true from by simp; omega] at this; exact this)
          clear h2 h4 HT
          go_wp2_with fail
          go_roundw
          case rel =>
            have h3 := HS.out.setCell 0 rfl i (.bool true)
            rw [List.set_cons_zero, blv_set, HT2.out] at h3
            exact ⟨i + 1, by omega, by go_num, h3⟩
          case measure => (simp [intOf]) <;> omega
        · have e4' : decide ((i : Int) < 252) = false := by simp; omega
          have n4 : ¬ (i : Int) < 252 := by omega
          have HT2 := hide (show (halfB i).set i false = halfB (i + 1) by have := HT.out; rw [show decide (i < 252 ∧ i ≠ 1) = false from by simp; omega] at this; exact this)
          clear h2 h4 HT
          go_wp2_with fail
          go_roundw
          case rel =>
            have h3 := HS.out.setCell 0 rfl i (.bool false)
            rw [List.set_cons_zero, blv_set, HT2.out] at h3
            exact ⟨i + 1, by omega, by go_num, h3⟩
          case measure => (simp [intOf]) <;> omega
    · obtain rfl : i = 255 := by omega
      have hszB : (blv (halfB 255)).toArray.size = 255 := by rw [List.size_toArray, blv_len, halfB_len]
      clear hS
      go_upto_region 7 with fail
      refine wp_region_list ?_
      refine wpList_load_row rfl 34 (.tmp 1) rfl w.heap.size rfl 34 (ivs xs).toArray _ _ (HS.out.heap 2 rfl) Tryd.underlying34 rfl (by rw [ivs_size HN.out]; kernel_rfl) ?_
      refine wpList_load_row rfl 96 (.tmp 3) rfl (w.heap.size + 2) rfl 96 (blv (halfB 255)).toArray _ _ (HS.out.heap 0 rfl) Tryd.underlying96 rfl (by rw [hszB]; kernel_rfl) ?_
      refine wl_callN rfl rfl enPowerNh rfl (HP.out _) ?_
      rintro e w2 ⟨ys, hy, rfl, hb2⟩
      refine ⟨_, rfl, ?_⟩
      have HY := hide hy
      have HS1 := hide (HS.out.call hb2)
      have HS3 := hide (HS1.out.setRow 1 rfl (ivs ys).toArray)
      clear HS hy
      refine wpList_store_row rfl 34 (.tmp 2) (.tmp 19) rfl (w.heap.size + 1) (ivs ys).toArray rfl rfl 34 _ (HS1.out.heap 1 rfl) (by rw [ivs_size HY.out]; kernel_rfl) (by rw [ivs_size HY.out]; rfl) (ivs_all _) ?_
      refine wpList_nil ?_
      go_wp2_with fail
      refine bodyPost_ret (results_cell_row rfl _ _ (w.heap.size + 1) _ _ _ _ rfl (HS3.out.heap 1 rfl) Tryd.underlying34 rfl (by rw [ivs_size HY.out]; kernel_rfl)) rfl ?_
      exact ⟨ys, HY.out, rfl, HS3.out.below⟩
end Go.Proofs.YtgahjjdbpjgemaaDoor

/-
  Layer 4: the page's Root.
-/
namespace Go.Proofs.YtgahjjdbpjgemaaDoor
open Go.RowKit
set_option linter.unusedSimpArgs false

theorem fpw_half (X : FK) : fpw X halfE = fpow X (2 ^ 252 - 3) := by
  unfold fpw fpow halfE
  with_reducible rfl
theorem halfNA {a : Array Value} {X : FK} (w : World) (ha : NA a X) : Calls Tryd.prog 69 #[.agg a] w (ResA w (fpow X (2 ^ 252 - 3))) := by
  obtain ⟨xs, rfl, h1⟩ := ha.ex
  rw [← fpw_half]
  exact (halfN_any xs X w h1).mono fun _ _ h => ResN.ra h
theorem rtX_page (U V : FK) : U * (V * V * V) * fpow (U * (V * V * V * (V * V * V) * V)) (2 ^ 252 - 3) = rtX U V := by
  unfold rtX
  congr 2
  grind
theorem en34_ru (args : Array Value) (w : World) : (callFunc 34 args).run Tryd.prog w = .ok (.enter 34 args) w := by kernel_rfl
theorem en47_ru (args : Array Value) (w : World) : (callFunc 47 args).run Tryd.prog w = .ok (.enter 47 args) w := by kernel_rfl
theorem en69_ru (args : Array Value) (w : World) : (callFunc 69 args).run Tryd.prog w = .ok (.enter 69 args) w := by kernel_rfl
theorem en70_ru (args : Array Value) (w : World) : (callFunc 70 args).run Tryd.prog w = .ok (.enter 70 args) w := by kernel_rfl
set_option maxRecDepth 100000 in
set_option maxHeartbeats 6400000 in
theorem rootN_any {u v : Array Value} {U V : FK} (w : World) (hu : NA u U) (hv : NA v V) :
    Calls Tryd.prog 55 #[.agg u, .agg v] w fun e w' => ∃ x, NA x ((rtF U V).getD 0) ∧ e = .returned (.tuple #[.agg x, .bool (rtF U V).isSome]) ∧ Below w.heap.size w w' := by
  obtain ⟨zz, hzz, hc⟩ : ∃ v, Tryd.prog.built 34 [] = some v ∧ NA v 0 := ⟨_, build0N, na_0⟩
  have HZZ := hide (And.intro hzz trivial)
  clear hzz
  have HS := hide (St.init w NoB)
  go_enter Tryd.func55, Tryd.ntmps55
  go_wp2_with (first | (refine wl_loadP rfl rfl rfl HS.out (by (repeat first | exact .head _ | apply List.Mem.tail)) (by first | exact rowE | exact rowP | exact rowN | exact rowQ) (by (first | exact .q0 (EA.arr ‹_›) | exact .q1 (EA.arr ‹_›) (EA.arr ‹_›) | exact .q2 (EA.arr ‹_›) (EA.arr ‹_›) (EA.arr ‹_›) | exact .q3 (EA.arr ‹_›) (EA.arr ‹_›) (EA.arr ‹_›) (EA.arr ‹_›) | exact .q0 (NA.arr ‹_›) | exact .q1 (NA.arr ‹_›) (NA.arr ‹_›) | exact .q2 (NA.arr ‹_›) (NA.arr ‹_›) (NA.arr ‹_›) | exact .q3 (NA.arr ‹_›) (NA.arr ‹_›) (NA.arr ‹_›) (NA.arr ‹_›) | exact .all (by (first | exact EA.arr ‹_› | exact NA.arr ‹_› | exact arr_zE | exact arr_zN | exact arr_zP | exact arr_zQ | exact PtN.arr ‹_› | exact PtV.arr ‹_› | exact QtN.arr ‹_› | exact qE ‹_› ‹_› ‹_› ‹_› | exact qN ‹_› ‹_› ‹_› ‹_›)))) ?_; (try simp only [Act.put, nq1, nq2, nq3, nq4, nq5, nq6])) | (refine wl_storeR rfl rfl rfl rfl HS.out (by first | exact rowE | exact rowP | exact rowN | exact rowQ) (by (repeat first | exact .head | apply Upd.tail)) (by (first | exact EA.arr ‹_› | exact NA.arr ‹_› | exact arr_zE | exact arr_zN | exact arr_zP | exact arr_zQ | exact PtN.arr ‹_› | exact PtV.arr ‹_› | exact QtN.arr ‹_› | exact qE ‹_› ‹_› ‹_› ‹_› | exact qN ‹_› ‹_› ‹_› ‹_›)) (by (first | exact EA.arr ‹_› | exact NA.arr ‹_› | exact arr_zE | exact arr_zN | exact arr_zP | exact arr_zQ | exact PtN.arr ‹_› | exact PtV.arr ‹_› | exact QtN.arr ‹_› | exact qE ‹_› ‹_› ‹_› ‹_› | exact qN ‹_› ‹_› ‹_› ‹_›)) ?_; intro wz hS9; have HS := hide hS9; clear hS9; (try simp only [Act.put, nq1, nq2, nq3, nq4, nq5, nq6])) | (refine wl_allocR rfl rfl HS.out (by first | exact newE | exact newP | exact newN | exact newQ) ?_; intro gz wz hS9; have HS := hide hS9; clear hS9; (try simp only [Act.put, nq1, nq2, nq3, nq4, nq5, nq6])) | (refine wl_boxR rfl rfl rfl HS.out ?_; intro gz wz hS9; have HS := hide hS9; clear hS9; (try simp only [Act.put, nq1, nq2, nq3, nq4, nq5, nq6])))
  have HS := hide HS.out.drew
  refine wp_region_XE [(5, 6)] [(0, 0), (1, 0), (3, 0), (2, 2), (4, 2)] (.op 6 2 (.nil)) zN 34 (by kernel_rfl) (by kernel_rfl) (by kernel_rfl) (by intro p hp; simp only [List.mem_cons, List.not_mem_nil, or_false] at hp; subst hp <;> exact flOp_of rfl rfl rfl (fun ev x => run_allocR rfl newN ev x)) (fun _ _ _ _ h => h) ?_
  refine wpX_loadP rfl rfl rfl rfl HS.out (.tail _ (.head _)) rowN (.all (by first | exact NA.arr ‹_› | exact arr_zN)) ?_; (try simp only [Act.put, nq1, nq2, nq3, nq4, nq5, nq6])
  refine wpX_loadP rfl rfl rfl rfl HS.out (.tail _ (.head _)) rowN (.all (by first | exact NA.arr ‹_› | exact arr_zN)) ?_; (try simp only [Act.put, nq1, nq2, nq3, nq4, nq5, nq6])
  refine wpX_loadP rfl rfl rfl rfl HS.out (.tail _ (.head _)) rowN (.all (by first | exact NA.arr ‹_› | exact arr_zN)) ?_; (try simp only [Act.put, nq1, nq2, nq3, nq4, nq5, nq6])
  refine wpX_callF rfl rfl rfl en34_ru rfl (fun x => mulNA x ‹_› ‹_›) ?_; rintro xw e wy ⟨z, hz, rfl, hb⟩; refine ⟨_, rfl, hb, ?_⟩; (try simp only [Act.put, nq1, nq2, nq3, nq4, nq5, nq6])
  refine wpX_callF rfl rfl rfl en34_ru rfl (fun x => mulNA x ‹_› ‹_›) ?_; rintro xw e wy ⟨z, hz, rfl, hb⟩; refine ⟨_, rfl, hb, ?_⟩; (try simp only [Act.put, nq1, nq2, nq3, nq4, nq5, nq6])
  refine wpX_nil ?_; intro G xz hx0 hx hF; have hS9 := HS.out.floats hx0 hF _ (by decide) (fun _ h => h); simp only [List.map_cons, List.map_nil, List.cons_append, List.nil_append] at hS9; have HS := hide hS9; have HX := hide hx0; have HG := hide hF.at_; clear hS9 hF hx0 hx; simp only [putsE, List.foldl_cons, List.foldl_nil]; (try simp only [Act.put, nq1, nq2, nq3, nq4, nq5, nq6])
  refine wpS_storeF rfl rfl rfl rfl rfl HS.out HX.out (HG.out 5 (by simp)).1 rowN (.head) (by first | exact NA.arr ‹_› | exact arr_zN) (by first | exact NA.arr ‹_› | exact arr_zN) ?_; intro wz hS9 hX9; have HS := hide hS9; have HX := hide hX9; clear hS9 hX9; (try simp only [Act.put, nq1, nq2, nq3, nq4, nq5, nq6])
  refine wpS_nil ?_
  go_wp2_with fail
  have HS := hide HS.out.drew
  refine wp_region_XE [(12, 7)] [(0, 0), (1, 0), (3, 0), (4, 0), (5, 0), (7, 0), (2, 2), (6, 2), (8, 2), (9, 2), (10, 2), (11, 2)] (.op 13 2 (.nil)) zN 34 (by kernel_rfl) (by kernel_rfl) (by kernel_rfl) (by intro p hp; simp only [List.mem_cons, List.not_mem_nil, or_false] at hp; subst hp <;> exact flOp_of rfl rfl rfl (fun ev x => run_allocR rfl newN ev x)) (fun _ _ _ _ h => h) ?_
  refine wpX_loadP rfl rfl rfl rfl HS.out (.tail _ (.tail _ (.tail _ (.head _)))) rowN (.all (by first | exact NA.arr ‹_› | exact arr_zN)) ?_; (try simp only [Act.put, nq1, nq2, nq3, nq4, nq5, nq6])
  refine wpX_loadP rfl rfl rfl rfl HS.out (.head _) rowN (.all (by first | exact NA.arr ‹_› | exact arr_zN)) ?_; (try simp only [Act.put, nq1, nq2, nq3, nq4, nq5, nq6])
  refine wpX_loadP rfl rfl rfl rfl HS.out (.tail _ (.tail _ (.tail _ (.head _)))) rowN (.all (by first | exact NA.arr ‹_› | exact arr_zN)) ?_; (try simp only [Act.put, nq1, nq2, nq3, nq4, nq5, nq6])
  refine wpX_loadP rfl rfl rfl rfl HS.out (.head _) rowN (.all (by first | exact NA.arr ‹_› | exact arr_zN)) ?_; (try simp only [Act.put, nq1, nq2, nq3, nq4, nq5, nq6])
  refine wpX_loadP rfl rfl rfl rfl HS.out (.head _) rowN (.all (by first | exact NA.arr ‹_› | exact arr_zN)) ?_; (try simp only [Act.put, nq1, nq2, nq3, nq4, nq5, nq6])
  refine wpX_loadP rfl rfl rfl rfl HS.out (.tail _ (.tail _ (.head _))) rowN (.all (by first | exact NA.arr ‹_› | exact arr_zN)) ?_; (try simp only [Act.put, nq1, nq2, nq3, nq4, nq5, nq6])
  refine wpX_callF rfl rfl rfl en34_ru rfl (fun x => mulNA x ‹_› ‹_›) ?_; rintro xw e wy ⟨z, hz, rfl, hb⟩; refine ⟨_, rfl, hb, ?_⟩; (try simp only [Act.put, nq1, nq2, nq3, nq4, nq5, nq6])
  refine wpX_callF rfl rfl rfl en34_ru rfl (fun x => mulNA x ‹_› ‹_›) ?_; rintro xw e wy ⟨z, hz, rfl, hb⟩; refine ⟨_, rfl, hb, ?_⟩; (try simp only [Act.put, nq1, nq2, nq3, nq4, nq5, nq6])
  refine wpX_callF rfl rfl rfl en34_ru rfl (fun x => mulNA x ‹_› ‹_›) ?_; rintro xw e wy ⟨z, hz, rfl, hb⟩; refine ⟨_, rfl, hb, ?_⟩; (try simp only [Act.put, nq1, nq2, nq3, nq4, nq5, nq6])
  refine wpX_callF rfl rfl rfl en34_ru rfl (fun x => mulNA x ‹_› ‹_›) ?_; rintro xw e wy ⟨z, hz, rfl, hb⟩; refine ⟨_, rfl, hb, ?_⟩; (try simp only [Act.put, nq1, nq2, nq3, nq4, nq5, nq6])
  refine wpX_callF rfl rfl rfl en69_ru rfl (fun x => halfNA x ‹_›) ?_; rintro xw e wy ⟨z, hz, rfl, hb⟩; refine ⟨_, rfl, hb, ?_⟩; (try simp only [Act.put, nq1, nq2, nq3, nq4, nq5, nq6])
  refine wpX_callF rfl rfl rfl en34_ru rfl (fun x => mulNA x ‹_› ‹_›) ?_; rintro xw e wy ⟨z, hz, rfl, hb⟩; refine ⟨_, rfl, hb, ?_⟩; (try simp only [Act.put, nq1, nq2, nq3, nq4, nq5, nq6])
  refine wpX_nil ?_; intro G xz hx0 hx hF; have hS9 := HS.out.floats hx0 hF _ (by decide) (fun _ h => h); simp only [List.map_cons, List.map_nil, List.cons_append, List.nil_append] at hS9; have HS := hide hS9; have HX := hide hx0; have HG := hide hF.at_; clear hS9 hF hx0 hx; simp only [putsE, List.foldl_cons, List.foldl_nil]; (try simp only [Act.put, nq1, nq2, nq3, nq4, nq5, nq6])
  refine wpS_storeF rfl rfl rfl rfl rfl HS.out HX.out (HG.out 12 (by simp)).1 rowN (.head) (by first | exact NA.arr ‹_› | exact arr_zN) (by first | exact NA.arr ‹_› | exact arr_zN) ?_; intro wz hS9 hX9; have HS := hide hS9; have HX := hide hX9; clear hS9 hX9; (try simp only [Act.put, nq1, nq2, nq3, nq4, nq5, nq6])
  refine wpS_nil ?_
  have hX := ‹NA _ (U * (V * V * V) * fpow (U * (V * V * V * (V * V * V) * V)) (2 ^ 252 - 3))›
  rw [rtX_page] at hX
  go_wp2_with fail
  have HS := hide HS.out.drew
  refine wp_region_T [(0, 0), (1, 0), (2, 0), (5, 0), (3, 2), (4, 2), (6, 2), (7, 1)] (by kernel_rfl) (by kernel_rfl) (fun _ _ _ _ h => h) ?_
  refine wpT_loadP rfl rfl rfl rfl HS.out (.tail _ (.tail _ (.tail _ (.head _)))) rowN (.all (by first | exact NA.arr ‹_› | exact arr_zN)) ?_; (try simp only [Act.put, nq1, nq2, nq3, nq4, nq5, nq6])
  refine wpT_loadP rfl rfl rfl rfl HS.out (.head _) rowN (.all (by first | exact NA.arr ‹_› | exact arr_zN)) ?_; (try simp only [Act.put, nq1, nq2, nq3, nq4, nq5, nq6])
  refine wpT_loadP rfl rfl rfl rfl HS.out (.head _) rowN (.all (by first | exact NA.arr ‹_› | exact arr_zN)) ?_; (try simp only [Act.put, nq1, nq2, nq3, nq4, nq5, nq6])
  refine wpT_loadP rfl rfl rfl rfl HS.out (.tail _ (.tail _ (.tail _ (.tail _ (.head _))))) rowN (.all (by first | exact NA.arr ‹_› | exact arr_zN)) ?_; (try simp only [Act.put, nq1, nq2, nq3, nq4, nq5, nq6])
  refine wpT_callF rfl rfl rfl en34_ru rfl (mulNA _ ‹_› ‹_›) ?_; rintro e wy ⟨z, hz, rfl, hb⟩; refine ⟨_, rfl, hb, ?_⟩; have HS := hide (HS.out.call hb); (try simp only [Act.put, nq1, nq2, nq3, nq4, nq5, nq6])
  refine wpT_callF rfl rfl rfl en34_ru rfl (mulNA _ ‹_› ‹_›) ?_; rintro e wy ⟨z, hz, rfl, hb⟩; refine ⟨_, rfl, hb, ?_⟩; have HS := hide (HS.out.call hb); (try simp only [Act.put, nq1, nq2, nq3, nq4, nq5, nq6])
  refine wpT_callF rfl rfl rfl en47_ru rfl (sameNA _ ‹_› ‹_›) ?_; rintro e wy ⟨rfl, hb⟩; refine ⟨_, rfl, hb, ?_⟩; have HS := hide (HS.out.call hb); (try simp only [Act.put, nq1, nq2, nq3, nq4, nq5, nq6])
  (refine wpT_pure (v := ?_) rfl rfl ?_ ?_; rotate_left; (intro wx; go_simp; try go_bits) <;> (with_reducible rfl)); (try simp only [Act.put, nq1, nq2, nq3, nq4, nq5, nq6])
  refine wpT_nil ?_
  have HE := hide (show rtX U V * rtX U V * V = V * (rtX U V * rtX U V) by grind)
  by_cases c1 : V * (rtX U V * rtX U V) = U
  · have hF : rtF U V = some (evn (rtX U V)) := by unfold rtF; rw [HE.out, if_pos c1]
    have HC := hide c1
    clear c1
    rw [decide_eq_true HC.out, Bool.not_true]
    go_wp2_with fail
    have HS := hide HS.out.drew
    refine wp_region_T [(0, 0), (1, 0), (2, 0), (5, 0), (3, 2), (4, 2), (6, 2), (7, 1)] (by kernel_rfl) (by kernel_rfl) (fun _ _ _ _ h => h) ?_
    refine wpT_loadP rfl rfl rfl rfl HS.out (.tail _ (.tail _ (.tail _ (.head _)))) rowN (.all (by first | exact NA.arr ‹_› | exact arr_zN)) ?_; (try simp only [Act.put, nq1, nq2, nq3, nq4, nq5, nq6])
    refine wpT_loadP rfl rfl rfl rfl HS.out (.head _) rowN (.all (by first | exact NA.arr ‹_› | exact arr_zN)) ?_; (try simp only [Act.put, nq1, nq2, nq3, nq4, nq5, nq6])
    refine wpT_loadP rfl rfl rfl rfl HS.out (.head _) rowN (.all (by first | exact NA.arr ‹_› | exact arr_zN)) ?_; (try simp only [Act.put, nq1, nq2, nq3, nq4, nq5, nq6])
    refine wpT_loadP rfl rfl rfl rfl HS.out (.tail _ (.tail _ (.tail _ (.tail _ (.head _))))) rowN (.all (by first | exact NA.arr ‹_› | exact arr_zN)) ?_; (try simp only [Act.put, nq1, nq2, nq3, nq4, nq5, nq6])
    refine wpT_callF rfl rfl rfl en34_ru rfl (mulNA _ ‹_› ‹_›) ?_; rintro e wy ⟨z, hz, rfl, hb⟩; refine ⟨_, rfl, hb, ?_⟩; have HS := hide (HS.out.call hb); (try simp only [Act.put, nq1, nq2, nq3, nq4, nq5, nq6])
    refine wpT_callF rfl rfl rfl en34_ru rfl (mulNA _ ‹_› ‹_›) ?_; rintro e wy ⟨z, hz, rfl, hb⟩; refine ⟨_, rfl, hb, ?_⟩; have HS := hide (HS.out.call hb); (try simp only [Act.put, nq1, nq2, nq3, nq4, nq5, nq6])
    refine wpT_callF rfl rfl rfl en47_ru rfl (sameNA _ ‹_› ‹_›) ?_; rintro e wy ⟨rfl, hb⟩; refine ⟨_, rfl, hb, ?_⟩; have HS := hide (HS.out.call hb); (try simp only [Act.put, nq1, nq2, nq3, nq4, nq5, nq6])
    (refine wpT_pure (v := ?_) rfl rfl ?_ ?_; rotate_left; (intro wx; go_simp; try go_bits) <;> (with_reducible rfl)); (try simp only [Act.put, nq1, nq2, nq3, nq4, nq5, nq6])
    refine wpT_nil ?_
    rw [decide_eq_true HC.out, Bool.not_true]
    have HOD := hide (fun W => oddNA W hX)
    by_cases ho : (rtX U V).val % 2 = 1
    · have hev : evn (rtX U V) = 0 - (rtX U V) := by unfold evn; rw [if_pos ho, zsub]
      rw [hev] at hF
      rw [decide_eq_true ho] at HOD
      have HF := hide hF
      clear hF hev ho
      go_wp2_with (first | (go_at_call 41; (with_reducible refine (HOD.out _).mono ?_); rintro e wy ⟨rfl, hb⟩; have HS := hide (HS.out.call hb)) | (go_at_call 42; (with_reducible refine (subNA _ hc hX).mono ?_); rintro e wy ⟨zn, hzn, rfl, hb⟩; have HS := hide (HS.out.call hb)) | (refine wl_build0 rfl rfl (HZZ.out).1 ?_; (try simp only [Act.put, nq1, nq2, nq3, nq4, nq5, nq6])) | (refine wl_storeR rfl rfl rfl rfl HS.out rowN (.tail (.tail (.head))) (by first | exact NA.arr ‹_› | exact arr_zN) (by first | exact NA.arr ‹_› | exact arr_zN) ?_; intro wz hS9; have HS := hide hS9; clear hS9; (try simp only [Act.put, nq1, nq2, nq3, nq4, nq5, nq6])) | (refine wl_loadP rfl rfl rfl HS.out (.head _) rowN (.all (by first | exact NA.arr ‹_› | exact arr_zN)) ?_; (try simp only [Act.put, nq1, nq2, nq3, nq4, nq5, nq6])) | (refine wl_storeR rfl rfl rfl rfl HS.out rowN (.head) (by first | exact NA.arr ‹_› | exact arr_zN) (by first | exact NA.arr ‹_› | exact arr_zN) ?_; intro wz hS9; have HS := hide hS9; clear hS9; (try simp only [Act.put, nq1, nq2, nq3, nq4, nq5, nq6])))
      refine bodyPost_ret (results_cell_tmp_row rfl _ _ _ _ _ _ _ rfl (HS.out.heapM (by (repeat first | exact .head _ | apply List.Mem.tail))) Tryd.underlying34 rfl (by first | (rw [(EA.arr ‹_›).size]; kernel_rfl) | (rw [(NA.arr ‹_›).size]; kernel_rfl) | (rw [(qE ‹_› ‹_› ‹_› ‹_›).size]; kernel_rfl) | (rw [(qN ‹_› ‹_› ‹_› ‹_›).size]; kernel_rfl) | (rw [(PtN.arr ‹_›).size]; kernel_rfl) | (rw [(PtV.arr ‹_›).size]; kernel_rfl) | (rw [(QtN.arr ‹_›).size]; kernel_rfl))) rfl ?_
      rw [HF.out]
      exact ⟨_, hzn, rfl, HS.out.below⟩
    · have hev : evn (rtX U V) = rtX U V := by unfold evn; rw [if_neg ho]
      rw [hev] at hF
      rw [decide_eq_false ho] at HOD
      have HF := hide hF
      clear hF hev ho
      go_wp2_with (first | (go_at_call 41; (with_reducible refine (HOD.out _).mono ?_); rintro e wy ⟨rfl, hb⟩; have HS := hide (HS.out.call hb)) | (refine wl_storeR rfl rfl rfl rfl HS.out rowN (.tail (.tail (.head))) (by first | exact NA.arr ‹_› | exact arr_zN) (by first | exact NA.arr ‹_› | exact arr_zN) ?_; intro wz hS9; have HS := hide hS9; clear hS9; (try simp only [Act.put, nq1, nq2, nq3, nq4, nq5, nq6])) | (refine wl_loadP rfl rfl rfl HS.out (.head _) rowN (.all (by first | exact NA.arr ‹_› | exact arr_zN)) ?_; (try simp only [Act.put, nq1, nq2, nq3, nq4, nq5, nq6])) | (refine wl_storeR rfl rfl rfl rfl HS.out rowN (.head) (by first | exact NA.arr ‹_› | exact arr_zN) (by first | exact NA.arr ‹_› | exact arr_zN) ?_; intro wz hS9; have HS := hide hS9; clear hS9; (try simp only [Act.put, nq1, nq2, nq3, nq4, nq5, nq6])))
      refine bodyPost_ret (results_cell_tmp_row rfl _ _ _ _ _ _ _ rfl (HS.out.heapM (by (repeat first | exact .head _ | apply List.Mem.tail))) Tryd.underlying34 rfl (by first | (rw [(EA.arr ‹_›).size]; kernel_rfl) | (rw [(NA.arr ‹_›).size]; kernel_rfl) | (rw [(qE ‹_› ‹_› ‹_› ‹_›).size]; kernel_rfl) | (rw [(qN ‹_› ‹_› ‹_› ‹_›).size]; kernel_rfl) | (rw [(PtN.arr ‹_›).size]; kernel_rfl) | (rw [(PtV.arr ‹_›).size]; kernel_rfl) | (rw [(QtN.arr ‹_›).size]; kernel_rfl))) rfl ?_
      rw [HF.out]
      exact ⟨_, hX, rfl, HS.out.below⟩
  · have HC := hide c1
    clear c1
    rw [decide_eq_false HC.out, Bool.not_false]
    go_wp2_with fail
    have HS := hide HS.out.drew
    refine wp_region_T [(0, 0), (1, 2), (2, 2), (3, 3)] (by kernel_rfl) (by kernel_rfl) (fun _ _ _ _ h => h) ?_
    refine wpT_loadP rfl rfl rfl rfl HS.out (.head _) rowN (.all (by first | exact NA.arr ‹_› | exact arr_zN)) ?_; (try simp only [Act.put, nq1, nq2, nq3, nq4, nq5, nq6])
    refine wpT_callF rfl rfl rfl en70_ru rfl (iNA _) ?_; rintro e wy ⟨z, hz, rfl, hb⟩; refine ⟨_, rfl, hb, ?_⟩; have HS := hide (HS.out.call hb); (try simp only [Act.put, nq1, nq2, nq3, nq4, nq5, nq6])
    refine wpT_callF rfl rfl rfl en34_ru rfl (mulNA _ ‹_› ‹_›) ?_; rintro e wy ⟨z, hz, rfl, hb⟩; refine ⟨_, rfl, hb, ?_⟩; have HS := hide (HS.out.call hb); (try simp only [Act.put, nq1, nq2, nq3, nq4, nq5, nq6])
    refine wpT_late rfl rfl ?_; intro K hK; refine wp_storeR rfl rfl rfl HS.out rowN (.head) (by first | exact NA.arr ‹_› | exact arr_zN) (by first | exact NA.arr ‹_› | exact arr_zN) ?_; intro wz hS9; have HS := hide hS9; clear hS9; refine hK _ _ ?_; (try simp only [Act.put, nq1, nq2, nq3, nq4, nq5, nq6])
    refine wpT_nil ?_
    have hXI := ‹NA _ (rtX U V * iF)›
    go_wp2_with fail
    have HS := hide HS.out.drew
    refine wp_region_T [(0, 0), (1, 0), (2, 0), (5, 0), (3, 2), (4, 2), (6, 2), (7, 1)] (by kernel_rfl) (by kernel_rfl) (fun _ _ _ _ h => h) ?_
    refine wpT_loadP rfl rfl rfl rfl HS.out (.tail _ (.tail _ (.tail _ (.head _)))) rowN (.all (by first | exact NA.arr ‹_› | exact arr_zN)) ?_; (try simp only [Act.put, nq1, nq2, nq3, nq4, nq5, nq6])
    refine wpT_loadP rfl rfl rfl rfl HS.out (.head _) rowN (.all (by first | exact NA.arr ‹_› | exact arr_zN)) ?_; (try simp only [Act.put, nq1, nq2, nq3, nq4, nq5, nq6])
    refine wpT_loadP rfl rfl rfl rfl HS.out (.head _) rowN (.all (by first | exact NA.arr ‹_› | exact arr_zN)) ?_; (try simp only [Act.put, nq1, nq2, nq3, nq4, nq5, nq6])
    refine wpT_loadP rfl rfl rfl rfl HS.out (.tail _ (.tail _ (.tail _ (.tail _ (.head _))))) rowN (.all (by first | exact NA.arr ‹_› | exact arr_zN)) ?_; (try simp only [Act.put, nq1, nq2, nq3, nq4, nq5, nq6])
    refine wpT_callF rfl rfl rfl en34_ru rfl (mulNA _ ‹_› ‹_›) ?_; rintro e wy ⟨z, hz, rfl, hb⟩; refine ⟨_, rfl, hb, ?_⟩; have HS := hide (HS.out.call hb); (try simp only [Act.put, nq1, nq2, nq3, nq4, nq5, nq6])
    refine wpT_callF rfl rfl rfl en34_ru rfl (mulNA _ ‹_› ‹_›) ?_; rintro e wy ⟨z, hz, rfl, hb⟩; refine ⟨_, rfl, hb, ?_⟩; have HS := hide (HS.out.call hb); (try simp only [Act.put, nq1, nq2, nq3, nq4, nq5, nq6])
    refine wpT_callF rfl rfl rfl en47_ru rfl (sameNA _ ‹_› ‹_›) ?_; rintro e wy ⟨rfl, hb⟩; refine ⟨_, rfl, hb, ?_⟩; have HS := hide (HS.out.call hb); (try simp only [Act.put, nq1, nq2, nq3, nq4, nq5, nq6])
    (refine wpT_pure (v := ?_) rfl rfl ?_ ?_; rotate_left; (intro wx; go_simp; try go_bits) <;> (with_reducible rfl)); (try simp only [Act.put, nq1, nq2, nq3, nq4, nq5, nq6])
    refine wpT_nil ?_
    have HE2 := hide (show V * (rtX U V * iF * (rtX U V * iF)) = -(rtX U V * rtX U V * V) by have := iF_sq; grind)
    by_cases c2 : V * (rtX U V * iF * (rtX U V * iF)) = U
    · have hF : rtF U V = some (evn (rtX U V * iF)) := by unfold rtF; rw [if_neg (by rw [HE.out]; exact HC.out), if_pos (by have := HE2.out; rw [c2] at this; rw [this]; grind)]
      have HC2 := hide c2
      clear c2
      rw [decide_eq_true HC2.out, Bool.not_true]
      have HOD := hide (fun W => oddNA W hXI)
      by_cases ho : (rtX U V * iF).val % 2 = 1
      · have hev : evn (rtX U V * iF) = 0 - (rtX U V * iF) := by unfold evn; rw [if_pos ho, zsub]
        rw [hev] at hF
        rw [decide_eq_true ho] at HOD
        have HF := hide hF
        clear hF hev ho
        go_wp2_with (first | (go_at_call 41; (with_reducible refine (HOD.out _).mono ?_); rintro e wy ⟨rfl, hb⟩; have HS := hide (HS.out.call hb)) | (go_at_call 42; (with_reducible refine (subNA _ hc hXI).mono ?_); rintro e wy ⟨zn, hzn, rfl, hb⟩; have HS := hide (HS.out.call hb)) | (refine wl_build0 rfl rfl (HZZ.out).1 ?_; (try simp only [Act.put, nq1, nq2, nq3, nq4, nq5, nq6])) | (refine wl_storeR rfl rfl rfl rfl HS.out rowN (.tail (.tail (.head))) (by first | exact NA.arr ‹_› | exact arr_zN) (by first | exact NA.arr ‹_› | exact arr_zN) ?_; intro wz hS9; have HS := hide hS9; clear hS9; (try simp only [Act.put, nq1, nq2, nq3, nq4, nq5, nq6])) | (refine wl_loadP rfl rfl rfl HS.out (.head _) rowN (.all (by first | exact NA.arr ‹_› | exact arr_zN)) ?_; (try simp only [Act.put, nq1, nq2, nq3, nq4, nq5, nq6])) | (refine wl_storeR rfl rfl rfl rfl HS.out rowN (.head) (by first | exact NA.arr ‹_› | exact arr_zN) (by first | exact NA.arr ‹_› | exact arr_zN) ?_; intro wz hS9; have HS := hide hS9; clear hS9; (try simp only [Act.put, nq1, nq2, nq3, nq4, nq5, nq6])))
        refine bodyPost_ret (results_cell_tmp_row rfl _ _ _ _ _ _ _ rfl (HS.out.heapM (by (repeat first | exact .head _ | apply List.Mem.tail))) Tryd.underlying34 rfl (by first | (rw [(EA.arr ‹_›).size]; kernel_rfl) | (rw [(NA.arr ‹_›).size]; kernel_rfl) | (rw [(qE ‹_› ‹_› ‹_› ‹_›).size]; kernel_rfl) | (rw [(qN ‹_› ‹_› ‹_› ‹_›).size]; kernel_rfl) | (rw [(PtN.arr ‹_›).size]; kernel_rfl) | (rw [(PtV.arr ‹_›).size]; kernel_rfl) | (rw [(QtN.arr ‹_›).size]; kernel_rfl))) rfl ?_
        rw [HF.out]
        exact ⟨_, hzn, rfl, HS.out.below⟩
      · have hev : evn (rtX U V * iF) = rtX U V * iF := by unfold evn; rw [if_neg ho]
        rw [hev] at hF
        rw [decide_eq_false ho] at HOD
        have HF := hide hF
        clear hF hev ho
        go_wp2_with (first | (go_at_call 41; (with_reducible refine (HOD.out _).mono ?_); rintro e wy ⟨rfl, hb⟩; have HS := hide (HS.out.call hb)) | (refine wl_storeR rfl rfl rfl rfl HS.out rowN (.tail (.tail (.head))) (by first | exact NA.arr ‹_› | exact arr_zN) (by first | exact NA.arr ‹_› | exact arr_zN) ?_; intro wz hS9; have HS := hide hS9; clear hS9; (try simp only [Act.put, nq1, nq2, nq3, nq4, nq5, nq6])) | (refine wl_loadP rfl rfl rfl HS.out (.head _) rowN (.all (by first | exact NA.arr ‹_› | exact arr_zN)) ?_; (try simp only [Act.put, nq1, nq2, nq3, nq4, nq5, nq6])) | (refine wl_storeR rfl rfl rfl rfl HS.out rowN (.head) (by first | exact NA.arr ‹_› | exact arr_zN) (by first | exact NA.arr ‹_› | exact arr_zN) ?_; intro wz hS9; have HS := hide hS9; clear hS9; (try simp only [Act.put, nq1, nq2, nq3, nq4, nq5, nq6])))
        refine bodyPost_ret (results_cell_tmp_row rfl _ _ _ _ _ _ _ rfl (HS.out.heapM (by (repeat first | exact .head _ | apply List.Mem.tail))) Tryd.underlying34 rfl (by first | (rw [(EA.arr ‹_›).size]; kernel_rfl) | (rw [(NA.arr ‹_›).size]; kernel_rfl) | (rw [(qE ‹_› ‹_› ‹_› ‹_›).size]; kernel_rfl) | (rw [(qN ‹_› ‹_› ‹_› ‹_›).size]; kernel_rfl) | (rw [(PtN.arr ‹_›).size]; kernel_rfl) | (rw [(PtV.arr ‹_›).size]; kernel_rfl) | (rw [(QtN.arr ‹_›).size]; kernel_rfl))) rfl ?_
        rw [HF.out]
        exact ⟨_, hXI, rfl, HS.out.below⟩
    · have hF : rtF U V = none := by unfold rtF; rw [if_neg (by rw [HE.out]; exact HC.out), if_neg (by intro h; apply c2; rw [HE2.out, h]; grind)]
      have HC2 := hide c2
      have HF := hide hF
      clear c2 hF
      rw [decide_eq_false HC2.out, Bool.not_false]
      go_wp2_with (first | (refine wl_build0 rfl rfl (HZZ.out).1 ?_; (try simp only [Act.put, nq1, nq2, nq3, nq4, nq5, nq6])) | (refine wl_storeR rfl rfl rfl rfl HS.out rowN (.tail (.tail (.head))) (by first | exact NA.arr ‹_› | exact arr_zN) (by first | exact NA.arr ‹_› | exact arr_zN) ?_; intro wz hS9; have HS := hide hS9; clear hS9; (try simp only [Act.put, nq1, nq2, nq3, nq4, nq5, nq6])) | (refine wl_loadP rfl rfl rfl HS.out (.head _) rowN (.all (by first | exact NA.arr ‹_› | exact arr_zN)) ?_; (try simp only [Act.put, nq1, nq2, nq3, nq4, nq5, nq6])) | (refine wl_storeR rfl rfl rfl rfl HS.out rowN (.head) (by first | exact NA.arr ‹_› | exact arr_zN) (by first | exact NA.arr ‹_› | exact arr_zN) ?_; intro wz hS9; have HS := hide hS9; clear hS9; (try simp only [Act.put, nq1, nq2, nq3, nq4, nq5, nq6])))
      refine bodyPost_ret (results_cell_tmp_row rfl _ _ _ _ _ _ _ rfl (HS.out.heapM (by (repeat first | exact .head _ | apply List.Mem.tail))) Tryd.underlying34 rfl (by first | (rw [(EA.arr ‹_›).size]; kernel_rfl) | (rw [(NA.arr ‹_›).size]; kernel_rfl) | (rw [(qE ‹_› ‹_› ‹_› ‹_›).size]; kernel_rfl) | (rw [(qN ‹_› ‹_› ‹_› ‹_›).size]; kernel_rfl) | (rw [(PtN.arr ‹_›).size]; kernel_rfl) | (rw [(PtV.arr ‹_›).size]; kernel_rfl) | (rw [(QtN.arr ‹_›).size]; kernel_rfl))) rfl ?_
      rw [HF.out]
      exact ⟨_, hc, rfl, HS.out.below⟩
end Go.Proofs.YtgahjjdbpjgemaaDoor

/-
  Plain mathematics: a point's 32 bytes; the point of bytes, as the code and as the page find it. No program is named here.
-/
namespace Go.Proofs.YtgahjjdbpjgemaaDoor
open Go.RowKit

/-- A point's bytes. -/
def packL (P : Ed) : List UInt8 := leB 32 (packN P)
theorem packL_len (P : Ed) : (packL P).length = 32 := leB_len 32 _
theorem packN_lt (P : Ed) : packN P < 256 ^ 32 := by
  unfold packN
  have h1 : P.y.val < Pq := P.y.isLt
  have h2 := pq_255
  have h3 : (256 : Nat) ^ 32 = 2 ^ 255 + 2 ^ 255 := by decide
  rw [h3]
  generalize (2 : Nat) ^ 255 = B at *
  split <;> omega
theorem packL_inj {P Q : Ed} (h : packL P = packL Q) : P = Q := packN_inj (leB_inj (packN_lt P) (packN_lt Q) h)
/-- The highest byte of a number of 255 bits, and with a bit more. -/
theorem top_bit (y : Nat) (hy : y < 2 ^ 255) : ∃ (l : List UInt8) (r : Nat), l.length = 31 ∧ r < 128 ∧ leB 32 y = l ++ [UInt8.ofNat r] ∧ leB 32 (y + 2 ^ 255) = l ++ [UInt8.ofNat (r + 128)] := by
  obtain ⟨x, hx⟩ : ∃ x, x = y % 256 ^ 31 := ⟨_, rfl⟩
  obtain ⟨r, hr⟩ : ∃ r, r = y / 256 ^ 31 := ⟨_, rfl⟩
  have hB : (2 : Nat) ^ 255 = 256 ^ 31 * 128 := by decide
  have hx2 : x < 256 ^ 31 := by rw [hx]; exact Nat.mod_lt _ (by decide)
  have e : y = x + 256 ^ 31 * r := by rw [hx, hr, Nat.mod_add_div]
  have hr2 : r < 128 := by
    rw [hr]
    refine Nat.div_lt_of_lt_mul ?_
    rw [← hB]
    exact hy
  refine ⟨leB 31 x, r, leB_len 31 x, hr2, ?_, ?_⟩
  · rw [e]
    have h := leB_add 31 1 x r hx2
    rw [show (31 + 1 : Nat) = 32 from rfl] at h
    rw [h]
    show _ ++ [UInt8.ofNat (r % 256)] = _
    rw [Nat.mod_eq_of_lt (by omega)]
  · rw [e, hB, Nat.add_assoc, ← Nat.mul_add]
    have h := leB_add 31 1 x (r + 128) hx2
    rw [show (31 + 1 : Nat) = 32 from rfl] at h
    rw [h]
    show _ ++ [UInt8.ofNat ((r + 128) % 256)] = _
    rw [Nat.mod_eq_of_lt (by omega)]
/-- Bytes without their highest bit; is that bit set? -/
def lowL (b : List UInt8) : List UInt8 := b.set 31 (UInt8.ofNat ((b.getD 31 0).toNat % 128))
def topB (b : List UInt8) : Bool := decide (128 ≤ (b.getD 31 0).toNat)
theorem lowL_len (b : List UInt8) : (lowL b).length = b.length := by unfold lowL; rw [List.length_set]
theorem bval_low {b : List UInt8} (h : b.length = 32) : bval b = bval (lowL b) + (if topB b then 2 ^ 255 else 0) ∧ bval (lowL b) < 2 ^ 255 := by
  obtain ⟨c, hc⟩ : ∃ c, b[31]? = some c := ⟨b[31], List.getElem?_eq_getElem _⟩
  have hg : b.getD 31 0 = c := by rw [List.getD_eq_getElem?_getD, hc]; rfl
  have hlow : (lowL b)[31]? = some (UInt8.ofNat (c.toNat % 128)) := by unfold lowL; rw [hg, List.getElem?_set_self (by omega)]
  have e1 := bval_take hc
  have e2 := bval_take hlow
  have t1 : b.take (31 + 1) = b := List.take_of_length_le (by omega)
  have t2 : (lowL b).take (31 + 1) = lowL b := List.take_of_length_le (by rw [lowL_len]; omega)
  have t3 : (lowL b).take 31 = b.take 31 := by unfold lowL; rw [List.take_set_of_le (Nat.le_refl 31)]
  rw [t1] at e1
  rw [t2, t3] at e2
  have hb := bval_lt (b.take 31)
  rw [List.length_take, Nat.min_eq_left (by omega)] at hb
  have hm : (UInt8.ofNat (c.toNat % 128)).toNat = c.toNat % 128 := by rw [UInt8.toNat_ofNat', Nat.mod_eq_of_lt (by omega)]
  rw [hm] at e2
  have hB : (2 : Nat) ^ 255 = 256 ^ 31 * 128 := by decide
  have hc2 : c.toNat < 256 := UInt8.toNat_lt c
  have hd := Nat.div_add_mod c.toNat 128
  unfold topB
  rw [hg, e1, e2, hB]
  generalize (256 : Nat) ^ 31 = W at *
  generalize bval (b.take 31) = V at *
  by_cases ht : 128 ≤ c.toNat
  · rw [decide_eq_true ht, if_pos rfl]
    have h1 : c.toNat = c.toNat % 128 + 128 := by omega
    refine ⟨?_, ?_⟩
    · conv => lhs; rw [h1]
      rw [Nat.add_mul, Nat.mul_comm 128 W]
      omega
    · have : c.toNat % 128 ≤ 127 := by omega
      have := Nat.mul_le_mul_right W this
      omega
  · rw [decide_eq_false ht, if_neg Bool.false_ne_true]
    have h1 : c.toNat % 128 = c.toNat := by omega
    rw [h1]
    refine ⟨by omega, ?_⟩
    have : c.toNat ≤ 127 := by omega
    have := Nat.mul_le_mul_right W this
    omega
theorem fbytes_low {b : List UInt8} (h : b.length = 32) : (fbytes (lowL b)).val = bval (lowL b) % Pq := by
  show bval (fullL (lowL b)) % Pq = _
  unfold fullL
  rw [List.take_append_of_le_length (by rw [lowL_len]; omega), List.take_of_length_le (by rw [lowL_len]; omega)]
/-- The point of bytes, as the code finds it. -/
noncomputable def fromL (b : List UInt8) : Option Ed :=
  if b.length = 32 then match unp (fbytes (lowL b)) (topB b) with
    | none => none
    | some P => if packL P = b then some P else none
  else none
/-- The same as the page has it. -/
noncomputable def pageL (b : List UInt8) : Option Ed :=
  if b.length = 32 then if leB 32 (fbytes (lowL b)).val = lowL b then match unp (fbytes (lowL b)) (topB b) with
    | none => none
    | some P => if topB b = true ∧ P.x = 0 then none else some P
  else none else none
theorem from_page (b : List UInt8) : fromL b = pageL b := by
  unfold fromL pageL
  by_cases h : b.length = 32
  · rw [if_pos h, if_pos h]
    obtain ⟨e1, e2⟩ := bval_low h
    have hy := fbytes_low h
    have hyl : (fbytes (lowL b)).val < Pq := (fbytes (lowL b)).isLt
    have hp := pq_255
    have hcan : leB 32 (fbytes (lowL b)).val = lowL b ↔ (fbytes (lowL b)).val = bval (lowL b) := by
      constructor
      · intro h1
        have := congrArg bval h1
        rw [bval_leB, Nat.mod_eq_of_lt (Nat.lt_trans (Nat.lt_trans hyl hp) (by decide))] at this
        exact this
      · intro h1
        rw [h1]
        have := leB_bval (lowL b)
        rw [lowL_len, h] at this
        exact this
    cases hu : unp (fbytes (lowL b)) (topB b) with
    | none =>
      show none = if leB 32 (fbytes (lowL b)).val = lowL b then none else none
      rw [ite_self]
    | some P =>
      obtain ⟨hPy, hPx⟩ := unp_ok hu
      have hpack : packL P = b ↔ packN P = bval b := by
        constructor
        · intro h1
          have := congrArg bval h1
          unfold packL at this
          rw [bval_leB, Nat.mod_eq_of_lt (packN_lt P)] at this
          exact this
        · intro h1
          unfold packL
          rw [h1]
          have := leB_bval b
          rw [h] at this
          exact this
      have hN : packN P = (fbytes (lowL b)).val + (if P.x.val % 2 = 1 then 2 ^ 255 else 0) := by unfold packN; rw [hPy]
      have key : packL P = b ↔ (leB 32 (fbytes (lowL b)).val = lowL b ∧ ¬ (topB b = true ∧ P.x = 0)) := by
        rw [hpack, hcan, hN, e1]
        generalize (fbytes (lowL b)).val = y at *
        generalize bval (lowL b) = L at *
        generalize (2 : Nat) ^ 255 = B at *
        rcases hPx with h0 | h0
        · have hv : P.x.val % 2 = 0 := by rw [h0, fzero_val]
          rw [if_neg (by omega)]
          cases topB b with
          | true => simp [h0]; omega
          | false => simp
        · rw [← h0]
          by_cases ho : P.x.val % 2 = 1
          · have hne : P.x ≠ 0 := fun e => by rw [e, fzero_val] at ho; omega
            simp [ho, hne]
          · simp [ho]
      show (if packL P = b then some P else none) = _
      by_cases hk : packL P = b
      · obtain ⟨k1, k2⟩ := key.1 hk
        rw [if_pos hk, if_pos k1]
        show _ = if topB b = true ∧ P.x = 0 then none else some P
        rw [if_neg k2]
      · rw [if_neg hk]
        by_cases k1 : leB 32 (fbytes (lowL b)).val = lowL b
        · rw [if_pos k1]
          show _ = if topB b = true ∧ P.x = 0 then none else some P
          have k2 : topB b = true ∧ P.x = 0 := Classical.byContradiction fun k2 => hk (key.2 ⟨k1, k2⟩)
          rw [if_pos k2]
        · rw [if_neg k1]
  · rw [if_neg h, if_neg h]
/-- A point's bytes are read as it. -/
theorem from_pack (P : Ed) : fromL (packL P) = some P := by
  have hl := packL_len P
  have h1 : P.y.val < Pq := P.y.isLt
  have hp := pq_255
  obtain ⟨e1, e2⟩ := bval_low hl
  have hb : bval (packL P) = packN P := by unfold packL; rw [bval_leB, Nat.mod_eq_of_lt (packN_lt P)]
  have hsp : bval (lowL (packL P)) = P.y.val ∧ topB (packL P) = decide (P.x.val % 2 = 1) := by
    rw [hb] at e1
    unfold packN at e1
    generalize bval (lowL (packL P)) = L at *
    generalize (2 : Nat) ^ 255 = B at *
    cases ht : topB (packL P) with
    | true =>
      rw [ht, if_pos rfl] at e1
      split at e1
      · rename_i h; exact ⟨by omega, (decide_eq_true h).symm⟩
      · omega
    | false =>
      rw [ht, if_neg Bool.false_ne_true] at e1
      split at e1
      · omega
      · rename_i h; exact ⟨by omega, (decide_eq_false h).symm⟩
  have hy : fbytes (lowL (packL P)) = P.y := Fin.ext (by rw [fbytes_low hl, hsp.1, Nat.mod_eq_of_lt h1])
  unfold fromL
  rw [if_pos hl, hy, hsp.2, unp_pack]
  show (if packL P = packL P then some P else none) = _
  rw [if_pos rfl]
end Go.Proofs.YtgahjjdbpjgemaaDoor

/-
  Layer 4: the code's Root.
-/
namespace Go.Proofs.YtgahjjdbpjgemaaDoor
open Go.RowKit
set_option linter.unusedSimpArgs false

set_option maxRecDepth 100000 in
set_option maxHeartbeats 800000 in
theorem squareA {a : Array Value} {X : FK} (w : World) (ha : EA a X) : Calls Tryd.prog 67 #[.agg a] w (ResE w (X * X)) := by
  have HS := hide (St.init w NoB)
  go_enter Tryd.func67, Tryd.ntmps67
  go_wp2_with (first | (go_at_call 36; (with_reducible refine (mulA _ (by assumption) (by assumption)).mono ?_); rintro e wy ⟨z, hz, rfl, hb⟩; try have HS := hide (HS.out.call hb)) | (go_at_call 53; (with_reducible refine (addA _ (by assumption) (by assumption)).mono ?_); rintro e wy ⟨z, hz, rfl, hb⟩; try have HS := hide (HS.out.call hb)) | (go_at_call 52; (with_reducible refine (subA _ (by assumption) (by assumption)).mono ?_); rintro e wy ⟨z, hz, rfl, hb⟩; try have HS := hide (HS.out.call hb)) | (go_at_call 45; (with_reducible refine (negA _ (by assumption)).mono ?_); rintro e wy ⟨z, hz, rfl, hb⟩; try have HS := hide (HS.out.call hb)) | (go_at_call 35; (with_reducible refine (invA _ (by assumption)).mono ?_); rintro e wy ⟨z, hz, rfl, hb⟩; try have HS := hide (HS.out.call hb)) | (refine wl_loadP rfl rfl rfl HS.out (by (repeat first | exact .head _ | apply List.Mem.tail)) (by first | exact rowE | exact rowP | exact rowN | exact rowQ) (by (first | exact .q0 (EA.arr ‹_›) | exact .q1 (EA.arr ‹_›) (EA.arr ‹_›) | exact .q2 (EA.arr ‹_›) (EA.arr ‹_›) (EA.arr ‹_›) | exact .q3 (EA.arr ‹_›) (EA.arr ‹_›) (EA.arr ‹_›) (EA.arr ‹_›) | exact .q0 (NA.arr ‹_›) | exact .q1 (NA.arr ‹_›) (NA.arr ‹_›) | exact .q2 (NA.arr ‹_›) (NA.arr ‹_›) (NA.arr ‹_›) | exact .q3 (NA.arr ‹_›) (NA.arr ‹_›) (NA.arr ‹_›) (NA.arr ‹_›) | exact .all (by (first | exact EA.arr ‹_› | exact NA.arr ‹_› | exact arr_zE | exact arr_zN | exact arr_zP | exact arr_zQ | exact PtN.arr ‹_› | exact PtV.arr ‹_› | exact QtN.arr ‹_› | exact qE ‹_› ‹_› ‹_› ‹_› | exact qN ‹_› ‹_› ‹_› ‹_›)))) ?_; (try simp only [Act.put, nq1, nq2, nq3, nq4, nq5, nq6])) | (refine wl_storeR rfl rfl rfl rfl HS.out (by first | exact rowE | exact rowP | exact rowN | exact rowQ) (by (repeat first | exact .head | apply Upd.tail)) (by (first | exact EA.arr ‹_› | exact NA.arr ‹_› | exact arr_zE | exact arr_zN | exact arr_zP | exact arr_zQ | exact PtN.arr ‹_› | exact PtV.arr ‹_› | exact QtN.arr ‹_› | exact qE ‹_› ‹_› ‹_› ‹_› | exact qN ‹_› ‹_› ‹_› ‹_›)) (by (first | exact EA.arr ‹_› | exact NA.arr ‹_› | exact arr_zE | exact arr_zN | exact arr_zP | exact arr_zQ | exact PtN.arr ‹_› | exact PtV.arr ‹_› | exact QtN.arr ‹_› | exact qE ‹_› ‹_› ‹_› ‹_› | exact qN ‹_› ‹_› ‹_› ‹_›)) ?_; intro wz hS9; have HS := hide hS9; clear hS9; (try simp only [Act.put, nq1, nq2, nq3, nq4, nq5, nq6])) | (refine wl_allocR rfl rfl HS.out (by first | exact newE | exact newP | exact newN | exact newQ) ?_; intro gz wz hS9; have HS := hide hS9; clear hS9; (try simp only [Act.put, nq1, nq2, nq3, nq4, nq5, nq6])) | (refine wl_boxR rfl rfl rfl HS.out ?_; intro gz wz hS9; have HS := hide hS9; clear hS9; (try simp only [Act.put, nq1, nq2, nq3, nq4, nq5, nq6])))
  refine bodyPost_ret (results_cell_row rfl _ _ _ _ _ _ _ rfl (HS.out.heapM (by (repeat first | exact .head _ | apply List.Mem.tail))) Tryd.underlying27 rfl (by first | (rw [(EA.arr ‹_›).size]; kernel_rfl) | (rw [(NA.arr ‹_›).size]; kernel_rfl) | (rw [(qE ‹_› ‹_› ‹_› ‹_›).size]; kernel_rfl) | (rw [(qN ‹_› ‹_› ‹_› ‹_›).size]; kernel_rfl) | (rw [(PtN.arr ‹_›).size]; kernel_rfl) | (rw [(PtV.arr ‹_›).size]; kernel_rfl) | (rw [(QtN.arr ‹_›).size]; kernel_rfl))) rfl ?_
  exact ⟨_, by assumption, rfl, HS.out.below⟩
theorem en36_rt (args : Array Value) (w : World) : (callFunc 36 args).run Tryd.prog w = .ok (.enter 36 args) w := by kernel_rfl
theorem en45_rt (args : Array Value) (w : World) : (callFunc 45 args).run Tryd.prog w = .ok (.enter 45 args) w := by kernel_rfl
theorem en48_rt (args : Array Value) (w : World) : (callFunc 48 args).run Tryd.prog w = .ok (.enter 48 args) w := by kernel_rfl
theorem en61_rt (args : Array Value) (w : World) : (callFunc 61 args).run Tryd.prog w = .ok (.enter 61 args) w := by kernel_rfl
theorem en67_rt (args : Array Value) (w : World) : (callFunc 67 args).run Tryd.prog w = .ok (.enter 67 args) w := by kernel_rfl
theorem en68_rt (args : Array Value) (w : World) : (callFunc 68 args).run Tryd.prog w = .ok (.enter 68 args) w := by kernel_rfl
set_option maxRecDepth 100000 in
set_option maxHeartbeats 6400000 in
theorem root_any {u v : Array Value} {U V : FK} (w : World) (hu : EA u U) (hv : EA v V) :
    Calls Tryd.prog 51 #[.agg u, .agg v] w fun e w' => ∃ x, EA x ((rtF U V).getD 0) ∧ e = .returned (.tuple #[.agg x, .bool (rtF U V).isSome]) ∧ Below w.heap.size w w' := by
  have HS := hide (St.init w NoB)
  go_enter Tryd.func51, Tryd.ntmps51
  go_wp2_with (first | (refine wl_loadP rfl rfl rfl HS.out (by (repeat first | exact .head _ | apply List.Mem.tail)) (by first | exact rowE | exact rowP | exact rowN | exact rowQ) (by (first | exact .q0 (EA.arr ‹_›) | exact .q1 (EA.arr ‹_›) (EA.arr ‹_›) | exact .q2 (EA.arr ‹_›) (EA.arr ‹_›) (EA.arr ‹_›) | exact .q3 (EA.arr ‹_›) (EA.arr ‹_›) (EA.arr ‹_›) (EA.arr ‹_›) | exact .q0 (NA.arr ‹_›) | exact .q1 (NA.arr ‹_›) (NA.arr ‹_›) | exact .q2 (NA.arr ‹_›) (NA.arr ‹_›) (NA.arr ‹_›) | exact .q3 (NA.arr ‹_›) (NA.arr ‹_›) (NA.arr ‹_›) (NA.arr ‹_›) | exact .all (by (first | exact EA.arr ‹_› | exact NA.arr ‹_› | exact arr_zE | exact arr_zN | exact arr_zP | exact arr_zQ | exact PtN.arr ‹_› | exact PtV.arr ‹_› | exact QtN.arr ‹_› | exact qE ‹_› ‹_› ‹_› ‹_› | exact qN ‹_› ‹_› ‹_› ‹_›)))) ?_; (try simp only [Act.put, nq1, nq2, nq3, nq4, nq5, nq6])) | (refine wl_storeR rfl rfl rfl rfl HS.out (by first | exact rowE | exact rowP | exact rowN | exact rowQ) (by (repeat first | exact .head | apply Upd.tail)) (by (first | exact EA.arr ‹_› | exact NA.arr ‹_› | exact arr_zE | exact arr_zN | exact arr_zP | exact arr_zQ | exact PtN.arr ‹_› | exact PtV.arr ‹_› | exact QtN.arr ‹_› | exact qE ‹_› ‹_› ‹_› ‹_› | exact qN ‹_› ‹_› ‹_› ‹_›)) (by (first | exact EA.arr ‹_› | exact NA.arr ‹_› | exact arr_zE | exact arr_zN | exact arr_zP | exact arr_zQ | exact PtN.arr ‹_› | exact PtV.arr ‹_› | exact QtN.arr ‹_› | exact qE ‹_› ‹_› ‹_› ‹_› | exact qN ‹_› ‹_› ‹_› ‹_›)) ?_; intro wz hS9; have HS := hide hS9; clear hS9; (try simp only [Act.put, nq1, nq2, nq3, nq4, nq5, nq6])) | (refine wl_allocR rfl rfl HS.out (by first | exact newE | exact newP | exact newN | exact newQ) ?_; intro gz wz hS9; have HS := hide hS9; clear hS9; (try simp only [Act.put, nq1, nq2, nq3, nq4, nq5, nq6])) | (refine wl_boxR rfl rfl rfl HS.out ?_; intro gz wz hS9; have HS := hide hS9; clear hS9; (try simp only [Act.put, nq1, nq2, nq3, nq4, nq5, nq6])))
  have HS := hide HS.out.drew
  refine wp_region_XE [(4, 6)] [(0, 0), (2, 0), (1, 2), (3, 2)] (.op 5 2 (.nil)) zE 27 (by kernel_rfl) (by kernel_rfl) (by kernel_rfl) (by intro p hp; simp only [List.mem_cons, List.not_mem_nil, or_false] at hp; subst hp <;> exact flOp_of rfl rfl rfl (fun ev x => run_allocR rfl newE ev x)) (fun _ _ _ _ h => h) ?_
  refine wpX_loadP rfl rfl rfl rfl HS.out (.tail _ (.head _)) rowE (.all (by first | exact EA.arr ‹_› | exact arr_zE)) ?_; (try simp only [Act.put, nq1, nq2, nq3, nq4, nq5, nq6])
  refine wpX_loadP rfl rfl rfl rfl HS.out (.tail _ (.head _)) rowE (.all (by first | exact EA.arr ‹_› | exact arr_zE)) ?_; (try simp only [Act.put, nq1, nq2, nq3, nq4, nq5, nq6])
  refine wpX_callF rfl rfl rfl en67_rt rfl (fun x => squareA x ‹_›) ?_; rintro xw e wy ⟨z, hz, rfl, hb⟩; refine ⟨_, rfl, hb, ?_⟩; (try simp only [Act.put, nq1, nq2, nq3, nq4, nq5, nq6])
  refine wpX_callF rfl rfl rfl en36_rt rfl (fun x => mulA x ‹_› ‹_›) ?_; rintro xw e wy ⟨z, hz, rfl, hb⟩; refine ⟨_, rfl, hb, ?_⟩; (try simp only [Act.put, nq1, nq2, nq3, nq4, nq5, nq6])
  refine wpX_nil ?_; intro G xz hx0 hx hF; have hS9 := HS.out.floats hx0 hF _ (by decide) (fun _ h => h); simp only [List.map_cons, List.map_nil, List.cons_append, List.nil_append] at hS9; have HS := hide hS9; have HX := hide hx0; have HG := hide hF.at_; clear hS9 hF hx0 hx; simp only [putsE, List.foldl_cons, List.foldl_nil]; (try simp only [Act.put, nq1, nq2, nq3, nq4, nq5, nq6])
  refine wpS_storeF rfl rfl rfl rfl rfl HS.out HX.out (HG.out 4 (by simp)).1 rowE (.head) (by first | exact EA.arr ‹_› | exact arr_zE) (by first | exact EA.arr ‹_› | exact arr_zE) ?_; intro wz hS9 hX9; have HS := hide hS9; have HX := hide hX9; clear hS9 hX9; (try simp only [Act.put, nq1, nq2, nq3, nq4, nq5, nq6])
  refine wpS_nil ?_
  go_wp2_with fail
  have HS := hide HS.out.drew
  refine wp_region_XE [(11, 7)] [(0, 0), (1, 0), (3, 0), (4, 0), (7, 0), (2, 2), (5, 2), (6, 2), (8, 2), (9, 2), (10, 2)] (.op 12 2 (.nil)) zE 27 (by kernel_rfl) (by kernel_rfl) (by kernel_rfl) (by intro p hp; simp only [List.mem_cons, List.not_mem_nil, or_false] at hp; subst hp <;> exact flOp_of rfl rfl rfl (fun ev x => run_allocR rfl newE ev x)) (fun _ _ _ _ h => h) ?_
  refine wpX_loadP rfl rfl rfl rfl HS.out (.tail _ (.tail _ (.tail _ (.head _)))) rowE (.all (by first | exact EA.arr ‹_› | exact arr_zE)) ?_; (try simp only [Act.put, nq1, nq2, nq3, nq4, nq5, nq6])
  refine wpX_loadP rfl rfl rfl rfl HS.out (.head _) rowE (.all (by first | exact EA.arr ‹_› | exact arr_zE)) ?_; (try simp only [Act.put, nq1, nq2, nq3, nq4, nq5, nq6])
  refine wpX_loadP rfl rfl rfl rfl HS.out (.tail _ (.tail _ (.tail _ (.head _)))) rowE (.all (by first | exact EA.arr ‹_› | exact arr_zE)) ?_; (try simp only [Act.put, nq1, nq2, nq3, nq4, nq5, nq6])
  refine wpX_loadP rfl rfl rfl rfl HS.out (.head _) rowE (.all (by first | exact EA.arr ‹_› | exact arr_zE)) ?_; (try simp only [Act.put, nq1, nq2, nq3, nq4, nq5, nq6])
  refine wpX_loadP rfl rfl rfl rfl HS.out (.tail _ (.tail _ (.head _))) rowE (.all (by first | exact EA.arr ‹_› | exact arr_zE)) ?_; (try simp only [Act.put, nq1, nq2, nq3, nq4, nq5, nq6])
  refine wpX_callF rfl rfl rfl en36_rt rfl (fun x => mulA x ‹_› ‹_›) ?_; rintro xw e wy ⟨z, hz, rfl, hb⟩; refine ⟨_, rfl, hb, ?_⟩; (try simp only [Act.put, nq1, nq2, nq3, nq4, nq5, nq6])
  refine wpX_callF rfl rfl rfl en67_rt rfl (fun x => squareA x ‹_›) ?_; rintro xw e wy ⟨z, hz, rfl, hb⟩; refine ⟨_, rfl, hb, ?_⟩; (try simp only [Act.put, nq1, nq2, nq3, nq4, nq5, nq6])
  refine wpX_callF rfl rfl rfl en36_rt rfl (fun x => mulA x ‹_› ‹_›) ?_; rintro xw e wy ⟨z, hz, rfl, hb⟩; refine ⟨_, rfl, hb, ?_⟩; (try simp only [Act.put, nq1, nq2, nq3, nq4, nq5, nq6])
  refine wpX_callF rfl rfl rfl en36_rt rfl (fun x => mulA x ‹_› ‹_›) ?_; rintro xw e wy ⟨z, hz, rfl, hb⟩; refine ⟨_, rfl, hb, ?_⟩; (try simp only [Act.put, nq1, nq2, nq3, nq4, nq5, nq6])
  refine wpX_callF rfl rfl rfl en61_rt rfl (fun x => powA1 x (by assumption)) ?_; rintro xw e wy ⟨z, hz, rfl, hb⟩; refine ⟨_, rfl, hb, ?_⟩; (try simp only [Act.put, nq1, nq2, nq3, nq4, nq5, nq6])
  refine wpX_callF rfl rfl rfl en36_rt rfl (fun x => mulA x ‹_› ‹_›) ?_; rintro xw e wy ⟨z, hz, rfl, hb⟩; refine ⟨_, rfl, hb, ?_⟩; (try simp only [Act.put, nq1, nq2, nq3, nq4, nq5, nq6])
  refine wpX_nil ?_; intro G xz hx0 hx hF; have hS9 := HS.out.floats hx0 hF _ (by decide) (fun _ h => h); simp only [List.map_cons, List.map_nil, List.cons_append, List.nil_append] at hS9; have HS := hide hS9; have HX := hide hx0; have HG := hide hF.at_; clear hS9 hF hx0 hx; simp only [putsE, List.foldl_cons, List.foldl_nil]; (try simp only [Act.put, nq1, nq2, nq3, nq4, nq5, nq6])
  refine wpS_storeF rfl rfl rfl rfl rfl HS.out HX.out (HG.out 11 (by simp)).1 rowE (.head) (by first | exact EA.arr ‹_› | exact arr_zE) (by first | exact EA.arr ‹_› | exact arr_zE) ?_; intro wz hS9 hX9; have HS := hide hS9; have HX := hide hX9; clear hS9 hX9; (try simp only [Act.put, nq1, nq2, nq3, nq4, nq5, nq6])
  refine wpS_nil ?_
  go_wp2_with fail
  have HS := hide HS.out.drew
  refine wp_region_XE [(4, 8)] [(0, 0), (2, 0), (1, 2), (3, 2)] (.op 5 2 (.nil)) zE 27 (by kernel_rfl) (by kernel_rfl) (by kernel_rfl) (by intro p hp; simp only [List.mem_cons, List.not_mem_nil, or_false] at hp; subst hp <;> exact flOp_of rfl rfl rfl (fun ev x => run_allocR rfl newE ev x)) (fun _ _ _ _ h => h) ?_
  refine wpX_loadP rfl rfl rfl rfl HS.out (.head _) rowE (.all (by first | exact EA.arr ‹_› | exact arr_zE)) ?_; (try simp only [Act.put, nq1, nq2, nq3, nq4, nq5, nq6])
  refine wpX_loadP rfl rfl rfl rfl HS.out (.tail _ (.tail _ (.tail _ (.head _)))) rowE (.all (by first | exact EA.arr ‹_› | exact arr_zE)) ?_; (try simp only [Act.put, nq1, nq2, nq3, nq4, nq5, nq6])
  refine wpX_callF rfl rfl rfl en67_rt rfl (fun x => squareA x ‹_›) ?_; rintro xw e wy ⟨z, hz, rfl, hb⟩; refine ⟨_, rfl, hb, ?_⟩; (try simp only [Act.put, nq1, nq2, nq3, nq4, nq5, nq6])
  refine wpX_callF rfl rfl rfl en36_rt rfl (fun x => mulA x ‹_› ‹_›) ?_; rintro xw e wy ⟨z, hz, rfl, hb⟩; refine ⟨_, rfl, hb, ?_⟩; (try simp only [Act.put, nq1, nq2, nq3, nq4, nq5, nq6])
  refine wpX_nil ?_; intro G xz hx0 hx hF; have hS9 := HS.out.floats hx0 hF _ (by decide) (fun _ h => h); simp only [List.map_cons, List.map_nil, List.cons_append, List.nil_append] at hS9; have HS := hide hS9; have HX := hide hx0; have HG := hide hF.at_; clear hS9 hF hx0 hx; simp only [putsE, List.foldl_cons, List.foldl_nil]; (try simp only [Act.put, nq1, nq2, nq3, nq4, nq5, nq6])
  refine wpS_storeF rfl rfl rfl rfl rfl HS.out HX.out (HG.out 4 (by simp)).1 rowE (.head) (by first | exact EA.arr ‹_› | exact arr_zE) (by first | exact EA.arr ‹_› | exact arr_zE) ?_; intro wz hS9 hX9; have HS := hide hS9; have HX := hide hX9; clear hS9 hX9; (try simp only [Act.put, nq1, nq2, nq3, nq4, nq5, nq6])
  refine wpS_nil ?_
  have hX := ‹EA _ (U * (V * V * V) * fpow (U * (V * V * V * (V * V * V)) * V) (2 ^ 252 - 3))›
  have hG := ‹EA _ (U * (V * V * V) * fpow (U * (V * V * V * (V * V * V)) * V) (2 ^ 252 - 3) * (U * (V * V * V) * fpow (U * (V * V * V * (V * V * V)) * V) (2 ^ 252 - 3)) * V)›
  change EA _ (rtX U V) at hX
  change EA _ (rtX U V * rtX U V * V) at hG
  by_cases c1 : rtX U V * rtX U V * V = U
  · have hF : rtF U V = some (evn (rtX U V)) := by unfold rtF; rw [if_pos c1]
    have HSM := hide (fun W => sameA W hG hu)
    rw [decide_eq_true c1] at HSM
    clear c1
    have HOD := hide (fun W => oddA W hX)
    by_cases ho : (rtX U V).val % 2 = 1
    · have hev : evn (rtX U V) = -(rtX U V) := by unfold evn; rw [if_pos ho]
      rw [hev] at hF
      rw [decide_eq_true ho] at HOD
      have HF := hide hF
      clear hF hev ho
      go_wp2_with (first | (go_at_call 68; (with_reducible refine (HSM.out _).mono ?_); rintro e wy ⟨rfl, hb⟩; have HS := hide (HS.out.call hb)) | (go_at_call 38; (with_reducible refine (HOD.out _).mono ?_); rintro e wy ⟨rfl, hb⟩; have HS := hide (HS.out.call hb)) | (go_at_call 45; (with_reducible refine (negA _ hX).mono ?_); rintro e wy ⟨zn, hzn, rfl, hb⟩; have HS := hide (HS.out.call hb)) | (refine wl_loadP rfl rfl rfl HS.out (.head _) rowE (.all (by first | exact EA.arr ‹_› | exact arr_zE)) ?_; (try simp only [Act.put, nq1, nq2, nq3, nq4, nq5, nq6])) | (refine wl_loadP rfl rfl rfl HS.out (.tail _ (.tail _ (.tail _ (.tail _ (.tail _ (.head _)))))) rowE (.all (by first | exact EA.arr ‹_› | exact arr_zE)) ?_; (try simp only [Act.put, nq1, nq2, nq3, nq4, nq5, nq6])) | (refine wl_storeR rfl rfl rfl rfl HS.out rowE (.tail (.tail (.tail (.head)))) (by first | exact EA.arr ‹_› | exact arr_zE) (by first | exact EA.arr ‹_› | exact arr_zE) ?_; intro wz hS9; have HS := hide hS9; clear hS9; (try simp only [Act.put, nq1, nq2, nq3, nq4, nq5, nq6])) | (refine wl_loadP rfl rfl rfl HS.out (.tail _ (.head _)) rowE (.all (by first | exact EA.arr ‹_› | exact arr_zE)) ?_; (try simp only [Act.put, nq1, nq2, nq3, nq4, nq5, nq6])) | (refine wl_storeR rfl rfl rfl rfl HS.out rowE (.tail (.head)) (by first | exact EA.arr ‹_› | exact arr_zE) (by first | exact EA.arr ‹_› | exact arr_zE) ?_; intro wz hS9; have HS := hide hS9; clear hS9; (try simp only [Act.put, nq1, nq2, nq3, nq4, nq5, nq6])))
      refine bodyPost_ret (results_cell_tmp_row rfl _ _ _ _ _ _ _ rfl (HS.out.heapM (by (repeat first | exact .head _ | apply List.Mem.tail))) Tryd.underlying27 rfl (by first | (rw [(EA.arr ‹_›).size]; kernel_rfl) | (rw [(NA.arr ‹_›).size]; kernel_rfl) | (rw [(qE ‹_› ‹_› ‹_› ‹_›).size]; kernel_rfl) | (rw [(qN ‹_› ‹_› ‹_› ‹_›).size]; kernel_rfl) | (rw [(PtN.arr ‹_›).size]; kernel_rfl) | (rw [(PtV.arr ‹_›).size]; kernel_rfl) | (rw [(QtN.arr ‹_›).size]; kernel_rfl))) rfl ?_
      rw [HF.out]
      exact ⟨_, hzn, rfl, HS.out.below⟩
    · have hev : evn (rtX U V) = rtX U V := by unfold evn; rw [if_neg ho]
      rw [hev] at hF
      rw [decide_eq_false ho] at HOD
      have HF := hide hF
      clear hF hev ho
      go_wp2_with (first | (go_at_call 68; (with_reducible refine (HSM.out _).mono ?_); rintro e wy ⟨rfl, hb⟩; have HS := hide (HS.out.call hb)) | (go_at_call 38; (with_reducible refine (HOD.out _).mono ?_); rintro e wy ⟨rfl, hb⟩; have HS := hide (HS.out.call hb)) | (refine wl_loadP rfl rfl rfl HS.out (.head _) rowE (.all (by first | exact EA.arr ‹_› | exact arr_zE)) ?_; (try simp only [Act.put, nq1, nq2, nq3, nq4, nq5, nq6])) | (refine wl_loadP rfl rfl rfl HS.out (.tail _ (.tail _ (.tail _ (.tail _ (.tail _ (.head _)))))) rowE (.all (by first | exact EA.arr ‹_› | exact arr_zE)) ?_; (try simp only [Act.put, nq1, nq2, nq3, nq4, nq5, nq6])) | (refine wl_storeR rfl rfl rfl rfl HS.out rowE (.tail (.tail (.tail (.head)))) (by first | exact EA.arr ‹_› | exact arr_zE) (by first | exact EA.arr ‹_› | exact arr_zE) ?_; intro wz hS9; have HS := hide hS9; clear hS9; (try simp only [Act.put, nq1, nq2, nq3, nq4, nq5, nq6])) | (refine wl_loadP rfl rfl rfl HS.out (.tail _ (.head _)) rowE (.all (by first | exact EA.arr ‹_› | exact arr_zE)) ?_; (try simp only [Act.put, nq1, nq2, nq3, nq4, nq5, nq6])) | (refine wl_storeR rfl rfl rfl rfl HS.out rowE (.tail (.head)) (by first | exact EA.arr ‹_› | exact arr_zE) (by first | exact EA.arr ‹_› | exact arr_zE) ?_; intro wz hS9; have HS := hide hS9; clear hS9; (try simp only [Act.put, nq1, nq2, nq3, nq4, nq5, nq6])))
      refine bodyPost_ret (results_cell_tmp_row rfl _ _ _ _ _ _ _ rfl (HS.out.heapM (by (repeat first | exact .head _ | apply List.Mem.tail))) Tryd.underlying27 rfl (by first | (rw [(EA.arr ‹_›).size]; kernel_rfl) | (rw [(NA.arr ‹_›).size]; kernel_rfl) | (rw [(qE ‹_› ‹_› ‹_› ‹_›).size]; kernel_rfl) | (rw [(qN ‹_› ‹_› ‹_› ‹_›).size]; kernel_rfl) | (rw [(PtN.arr ‹_›).size]; kernel_rfl) | (rw [(PtV.arr ‹_›).size]; kernel_rfl) | (rw [(QtN.arr ‹_›).size]; kernel_rfl))) rfl ?_
      rw [HF.out]
      exact ⟨_, hX, rfl, HS.out.below⟩
  · by_cases c2 : rtX U V * rtX U V * V = -U
    · have hF : rtF U V = some (evn (rtX U V * iF)) := by unfold rtF; rw [if_neg c1, if_pos c2]
      have HSM := hide (fun W => sameA W hG hu)
      rw [decide_eq_false c1] at HSM
      have HC2 := hide c2
      clear c1 c2
      go_wp2_with (first | (go_at_call 68; (with_reducible refine (HSM.out _).mono ?_); rintro e wy ⟨rfl, hb⟩; have HS := hide (HS.out.call hb)) | (refine wl_loadP rfl rfl rfl HS.out (.head _) rowE (.all (by first | exact EA.arr ‹_› | exact arr_zE)) ?_; (try simp only [Act.put, nq1, nq2, nq3, nq4, nq5, nq6])) | (refine wl_loadP rfl rfl rfl HS.out (.tail _ (.tail _ (.tail _ (.tail _ (.tail _ (.head _)))))) rowE (.all (by first | exact EA.arr ‹_› | exact arr_zE)) ?_; (try simp only [Act.put, nq1, nq2, nq3, nq4, nq5, nq6])) | (refine wl_storeR rfl rfl rfl rfl HS.out rowE (.tail (.tail (.tail (.head)))) (by first | exact EA.arr ‹_› | exact arr_zE) (by first | exact EA.arr ‹_› | exact arr_zE) ?_; intro wz hS9; have HS := hide hS9; clear hS9; (try simp only [Act.put, nq1, nq2, nq3, nq4, nq5, nq6])) | (refine wl_loadP rfl rfl rfl HS.out (.tail _ (.head _)) rowE (.all (by first | exact EA.arr ‹_› | exact arr_zE)) ?_; (try simp only [Act.put, nq1, nq2, nq3, nq4, nq5, nq6])) | (refine wl_storeR rfl rfl rfl rfl HS.out rowE (.tail (.head)) (by first | exact EA.arr ‹_› | exact arr_zE) (by first | exact EA.arr ‹_› | exact arr_zE) ?_; intro wz hS9; have HS := hide hS9; clear hS9; (try simp only [Act.put, nq1, nq2, nq3, nq4, nq5, nq6])))
      have HS := hide HS.out.drew
      refine wp_region_T [(0, 0), (1, 0), (2, 2), (3, 2), (4, 1)] (by kernel_rfl) (by kernel_rfl) (fun _ _ _ _ h => h) ?_
      refine wpT_loadP rfl rfl rfl rfl HS.out (.head _) rowE (.all (by first | exact EA.arr ‹_› | exact arr_zE)) ?_; (try simp only [Act.put, nq1, nq2, nq3, nq4, nq5, nq6])
      refine wpT_loadP rfl rfl rfl rfl HS.out (.tail _ (.tail _ (.tail _ (.tail _ (.tail _ (.head _)))))) rowE (.all (by first | exact EA.arr ‹_› | exact arr_zE)) ?_; (try simp only [Act.put, nq1, nq2, nq3, nq4, nq5, nq6])
      refine wpT_callF rfl rfl rfl en45_rt rfl (negA _ ‹_›) ?_; rintro e wy ⟨z, hz, rfl, hb⟩; refine ⟨_, rfl, hb, ?_⟩; have HS := hide (HS.out.call hb); (try simp only [Act.put, nq1, nq2, nq3, nq4, nq5, nq6])
      refine wpT_callF rfl rfl rfl en68_rt rfl (sameA _ ‹_› ‹_›) ?_; rintro e wy ⟨rfl, hb⟩; refine ⟨_, rfl, hb, ?_⟩; have HS := hide (HS.out.call hb); (try simp only [Act.put, nq1, nq2, nq3, nq4, nq5, nq6])
      (refine wpT_pure (v := ?_) rfl rfl ?_ ?_; rotate_left; (intro wx; go_simp; try go_bits) <;> (with_reducible rfl)); (try simp only [Act.put, nq1, nq2, nq3, nq4, nq5, nq6])
      refine wpT_nil ?_
      rw [decide_eq_true HC2.out]
      go_wp2_with fail
      have HS := hide HS.out.drew
      refine wp_region_T [(0, 0), (1, 2), (2, 2), (3, 2), (4, 3)] (by kernel_rfl) (by kernel_rfl) (fun _ _ _ _ h => h) ?_
      refine wpT_loadP rfl rfl rfl rfl HS.out (.tail _ (.head _)) rowE (.all (by first | exact EA.arr ‹_› | exact arr_zE)) ?_; (try simp only [Act.put, nq1, nq2, nq3, nq4, nq5, nq6])
      refine wpT_callF rfl rfl rfl en48_rt rfl (small2A _) ?_; rintro e wy ⟨z, hz, rfl, hb⟩; refine ⟨_, rfl, hb, ?_⟩; have HS := hide (HS.out.call hb); (try simp only [Act.put, nq1, nq2, nq3, nq4, nq5, nq6])
      refine wpT_callF rfl rfl rfl en61_rt rfl (powA2 _ (by assumption)) ?_; rintro e wy ⟨z, hz, rfl, hb⟩; refine ⟨_, rfl, hb, ?_⟩; have HS := hide (HS.out.call hb); (try simp only [Act.put, nq1, nq2, nq3, nq4, nq5, nq6])
      refine wpT_callF rfl rfl rfl en36_rt rfl (mulA _ ‹_› ‹_›) ?_; rintro e wy ⟨z, hz, rfl, hb⟩; refine ⟨_, rfl, hb, ?_⟩; have HS := hide (HS.out.call hb); (try simp only [Act.put, nq1, nq2, nq3, nq4, nq5, nq6])
      refine wpT_late rfl rfl ?_; intro K hK; refine wp_storeR rfl rfl rfl HS.out rowE (.tail (.head)) (by first | exact EA.arr ‹_› | exact arr_zE) (by first | exact EA.arr ‹_› | exact arr_zE) ?_; intro wz hS9; have HS := hide hS9; clear hS9; refine hK _ _ ?_; (try simp only [Act.put, nq1, nq2, nq3, nq4, nq5, nq6])
      refine wpT_nil ?_
      have hXI := ‹EA _ (rtX U V * fpow (toF 2) (2 ^ 253 - 5))›
      rw [two_root] at hXI
      have HOD := hide (fun W => oddA W hXI)
      by_cases ho : (rtX U V * iF).val % 2 = 1
      · have hev : evn (rtX U V * iF) = -(rtX U V * iF) := by unfold evn; rw [if_pos ho]
        rw [hev] at hF
        rw [decide_eq_true ho] at HOD
        have HF := hide hF
        clear hF hev ho
        go_wp2_with (first | (go_at_call 38; (with_reducible refine (HOD.out _).mono ?_); rintro e wy ⟨rfl, hb⟩; have HS := hide (HS.out.call hb)) | (go_at_call 45; (with_reducible refine (negA _ hXI).mono ?_); rintro e wy ⟨zn, hzn, rfl, hb⟩; have HS := hide (HS.out.call hb)) | (refine wl_loadP rfl rfl rfl HS.out (.head _) rowE (.all (by first | exact EA.arr ‹_› | exact arr_zE)) ?_; (try simp only [Act.put, nq1, nq2, nq3, nq4, nq5, nq6])) | (refine wl_loadP rfl rfl rfl HS.out (.tail _ (.tail _ (.tail _ (.tail _ (.tail _ (.head _)))))) rowE (.all (by first | exact EA.arr ‹_› | exact arr_zE)) ?_; (try simp only [Act.put, nq1, nq2, nq3, nq4, nq5, nq6])) | (refine wl_storeR rfl rfl rfl rfl HS.out rowE (.tail (.tail (.tail (.head)))) (by first | exact EA.arr ‹_› | exact arr_zE) (by first | exact EA.arr ‹_› | exact arr_zE) ?_; intro wz hS9; have HS := hide hS9; clear hS9; (try simp only [Act.put, nq1, nq2, nq3, nq4, nq5, nq6])) | (refine wl_loadP rfl rfl rfl HS.out (.tail _ (.head _)) rowE (.all (by first | exact EA.arr ‹_› | exact arr_zE)) ?_; (try simp only [Act.put, nq1, nq2, nq3, nq4, nq5, nq6])) | (refine wl_storeR rfl rfl rfl rfl HS.out rowE (.tail (.head)) (by first | exact EA.arr ‹_› | exact arr_zE) (by first | exact EA.arr ‹_› | exact arr_zE) ?_; intro wz hS9; have HS := hide hS9; clear hS9; (try simp only [Act.put, nq1, nq2, nq3, nq4, nq5, nq6])))
        refine bodyPost_ret (results_cell_tmp_row rfl _ _ _ _ _ _ _ rfl (HS.out.heapM (by (repeat first | exact .head _ | apply List.Mem.tail))) Tryd.underlying27 rfl (by first | (rw [(EA.arr ‹_›).size]; kernel_rfl) | (rw [(NA.arr ‹_›).size]; kernel_rfl) | (rw [(qE ‹_› ‹_› ‹_› ‹_›).size]; kernel_rfl) | (rw [(qN ‹_› ‹_› ‹_› ‹_›).size]; kernel_rfl) | (rw [(PtN.arr ‹_›).size]; kernel_rfl) | (rw [(PtV.arr ‹_›).size]; kernel_rfl) | (rw [(QtN.arr ‹_›).size]; kernel_rfl))) rfl ?_
        rw [HF.out]
        exact ⟨_, hzn, rfl, HS.out.below⟩
      · have hev : evn (rtX U V * iF) = rtX U V * iF := by unfold evn; rw [if_neg ho]
        rw [hev] at hF
        rw [decide_eq_false ho] at HOD
        have HF := hide hF
        clear hF hev ho
        go_wp2_with (first | (go_at_call 38; (with_reducible refine (HOD.out _).mono ?_); rintro e wy ⟨rfl, hb⟩; have HS := hide (HS.out.call hb)) | (refine wl_loadP rfl rfl rfl HS.out (.head _) rowE (.all (by first | exact EA.arr ‹_› | exact arr_zE)) ?_; (try simp only [Act.put, nq1, nq2, nq3, nq4, nq5, nq6])) | (refine wl_loadP rfl rfl rfl HS.out (.tail _ (.tail _ (.tail _ (.tail _ (.tail _ (.head _)))))) rowE (.all (by first | exact EA.arr ‹_› | exact arr_zE)) ?_; (try simp only [Act.put, nq1, nq2, nq3, nq4, nq5, nq6])) | (refine wl_storeR rfl rfl rfl rfl HS.out rowE (.tail (.tail (.tail (.head)))) (by first | exact EA.arr ‹_› | exact arr_zE) (by first | exact EA.arr ‹_› | exact arr_zE) ?_; intro wz hS9; have HS := hide hS9; clear hS9; (try simp only [Act.put, nq1, nq2, nq3, nq4, nq5, nq6])) | (refine wl_loadP rfl rfl rfl HS.out (.tail _ (.head _)) rowE (.all (by first | exact EA.arr ‹_› | exact arr_zE)) ?_; (try simp only [Act.put, nq1, nq2, nq3, nq4, nq5, nq6])) | (refine wl_storeR rfl rfl rfl rfl HS.out rowE (.tail (.head)) (by first | exact EA.arr ‹_› | exact arr_zE) (by first | exact EA.arr ‹_› | exact arr_zE) ?_; intro wz hS9; have HS := hide hS9; clear hS9; (try simp only [Act.put, nq1, nq2, nq3, nq4, nq5, nq6])))
        refine bodyPost_ret (results_cell_tmp_row rfl _ _ _ _ _ _ _ rfl (HS.out.heapM (by (repeat first | exact .head _ | apply List.Mem.tail))) Tryd.underlying27 rfl (by first | (rw [(EA.arr ‹_›).size]; kernel_rfl) | (rw [(NA.arr ‹_›).size]; kernel_rfl) | (rw [(qE ‹_› ‹_› ‹_› ‹_›).size]; kernel_rfl) | (rw [(qN ‹_› ‹_› ‹_› ‹_›).size]; kernel_rfl) | (rw [(PtN.arr ‹_›).size]; kernel_rfl) | (rw [(PtV.arr ‹_›).size]; kernel_rfl) | (rw [(QtN.arr ‹_›).size]; kernel_rfl))) rfl ?_
        rw [HF.out]
        exact ⟨_, hXI, rfl, HS.out.below⟩
    · have hF : rtF U V = none := by unfold rtF; rw [if_neg c1, if_neg c2]
      have HSM := hide (fun W => sameA W hG hu)
      rw [decide_eq_false c1] at HSM
      have HC2 := hide c2
      have HF := hide hF
      clear c1 c2 hF
      have hz0 := ea_zero
      go_wp2_with (first | (go_at_call 68; (with_reducible refine (HSM.out _).mono ?_); rintro e wy ⟨rfl, hb⟩; have HS := hide (HS.out.call hb)) | (refine wl_loadP rfl rfl rfl HS.out (.head _) rowE (.all (by first | exact EA.arr ‹_› | exact arr_zE)) ?_; (try simp only [Act.put, nq1, nq2, nq3, nq4, nq5, nq6])) | (refine wl_loadP rfl rfl rfl HS.out (.tail _ (.tail _ (.tail _ (.tail _ (.tail _ (.head _)))))) rowE (.all (by first | exact EA.arr ‹_› | exact arr_zE)) ?_; (try simp only [Act.put, nq1, nq2, nq3, nq4, nq5, nq6])) | (refine wl_storeR rfl rfl rfl rfl HS.out rowE (.tail (.tail (.tail (.head)))) (by first | exact EA.arr ‹_› | exact arr_zE) (by first | exact EA.arr ‹_› | exact arr_zE) ?_; intro wz hS9; have HS := hide hS9; clear hS9; (try simp only [Act.put, nq1, nq2, nq3, nq4, nq5, nq6])) | (refine wl_loadP rfl rfl rfl HS.out (.tail _ (.head _)) rowE (.all (by first | exact EA.arr ‹_› | exact arr_zE)) ?_; (try simp only [Act.put, nq1, nq2, nq3, nq4, nq5, nq6])) | (refine wl_storeR rfl rfl rfl rfl HS.out rowE (.tail (.head)) (by first | exact EA.arr ‹_› | exact arr_zE) (by first | exact EA.arr ‹_› | exact arr_zE) ?_; intro wz hS9; have HS := hide hS9; clear hS9; (try simp only [Act.put, nq1, nq2, nq3, nq4, nq5, nq6])))
      have HS := hide HS.out.drew
      refine wp_region_T [(0, 0), (1, 0), (2, 2), (3, 2), (4, 1)] (by kernel_rfl) (by kernel_rfl) (fun _ _ _ _ h => h) ?_
      refine wpT_loadP rfl rfl rfl rfl HS.out (.head _) rowE (.all (by first | exact EA.arr ‹_› | exact arr_zE)) ?_; (try simp only [Act.put, nq1, nq2, nq3, nq4, nq5, nq6])
      refine wpT_loadP rfl rfl rfl rfl HS.out (.tail _ (.tail _ (.tail _ (.tail _ (.tail _ (.head _)))))) rowE (.all (by first | exact EA.arr ‹_› | exact arr_zE)) ?_; (try simp only [Act.put, nq1, nq2, nq3, nq4, nq5, nq6])
      refine wpT_callF rfl rfl rfl en45_rt rfl (negA _ ‹_›) ?_; rintro e wy ⟨z, hz, rfl, hb⟩; refine ⟨_, rfl, hb, ?_⟩; have HS := hide (HS.out.call hb); (try simp only [Act.put, nq1, nq2, nq3, nq4, nq5, nq6])
      refine wpT_callF rfl rfl rfl en68_rt rfl (sameA _ ‹_› ‹_›) ?_; rintro e wy ⟨rfl, hb⟩; refine ⟨_, rfl, hb, ?_⟩; have HS := hide (HS.out.call hb); (try simp only [Act.put, nq1, nq2, nq3, nq4, nq5, nq6])
      (refine wpT_pure (v := ?_) rfl rfl ?_ ?_; rotate_left; (intro wx; go_simp; try go_bits) <;> (with_reducible rfl)); (try simp only [Act.put, nq1, nq2, nq3, nq4, nq5, nq6])
      refine wpT_nil ?_
      rw [decide_eq_false HC2.out]
      go_wp2_with (first | (refine wl_loadP rfl rfl rfl HS.out (.head _) rowE (.all (by first | exact EA.arr ‹_› | exact arr_zE)) ?_; (try simp only [Act.put, nq1, nq2, nq3, nq4, nq5, nq6])) | (refine wl_loadP rfl rfl rfl HS.out (.tail _ (.tail _ (.tail _ (.tail _ (.tail _ (.head _)))))) rowE (.all (by first | exact EA.arr ‹_› | exact arr_zE)) ?_; (try simp only [Act.put, nq1, nq2, nq3, nq4, nq5, nq6])) | (refine wl_storeR rfl rfl rfl rfl HS.out rowE (.tail (.tail (.tail (.head)))) (by first | exact EA.arr ‹_› | exact arr_zE) (by first | exact EA.arr ‹_› | exact arr_zE) ?_; intro wz hS9; have HS := hide hS9; clear hS9; (try simp only [Act.put, nq1, nq2, nq3, nq4, nq5, nq6])) | (refine wl_loadP rfl rfl rfl HS.out (.tail _ (.head _)) rowE (.all (by first | exact EA.arr ‹_› | exact arr_zE)) ?_; (try simp only [Act.put, nq1, nq2, nq3, nq4, nq5, nq6])) | (refine wl_storeR rfl rfl rfl rfl HS.out rowE (.tail (.head)) (by first | exact EA.arr ‹_› | exact arr_zE) (by first | exact EA.arr ‹_› | exact arr_zE) ?_; intro wz hS9; have HS := hide hS9; clear hS9; (try simp only [Act.put, nq1, nq2, nq3, nq4, nq5, nq6])))
      refine bodyPost_ret (results_cell_tmp_row rfl _ _ _ _ _ _ _ rfl (HS.out.heapM (by (repeat first | exact .head _ | apply List.Mem.tail))) Tryd.underlying27 rfl (by first | (rw [(EA.arr ‹_›).size]; kernel_rfl) | (rw [(NA.arr ‹_›).size]; kernel_rfl) | (rw [(qE ‹_› ‹_› ‹_› ‹_›).size]; kernel_rfl) | (rw [(qN ‹_› ‹_› ‹_› ‹_›).size]; kernel_rfl) | (rw [(PtN.arr ‹_›).size]; kernel_rfl) | (rw [(PtV.arr ‹_›).size]; kernel_rfl) | (rw [(QtN.arr ‹_›).size]; kernel_rfl))) rfl ?_
      rw [HF.out]
      exact ⟨_, hz0, rfl, HS.out.below⟩
end Go.Proofs.YtgahjjdbpjgemaaDoor

/-
  Layer 4: the code's multiples of a point.
-/
namespace Go.Proofs.YtgahjjdbpjgemaaDoor
open Go.RowKit
set_option linter.unusedSimpArgs false

/-- Bit number i. -/
theorem bval_bit (l : List UInt8) {q r : Nat} {c : UInt8} (hc : l[q]? = some c) (hr : r < 8) : c.toNat / 2 ^ r % 2 = bval l / 2 ^ (8 * q + r) % 2 := by
  have hq := (List.getElem?_eq_some_iff.1 hc).1
  have h1 : bval l = bval (l.take q) + 256 ^ q * (c.toNat + 256 * bval (l.drop (q + 1))) := by
    have e := bval_append (l.take q) (l.drop q)
    rw [List.take_append_drop, List.length_take, Nat.min_eq_left (by omega)] at e
    rw [e, List.drop_eq_getElem_cons hq]
    rw [List.getElem?_eq_getElem hq] at hc
    injection hc with hc
    rw [hc, bval]
  have h2 := bval_lt (l.take q)
  rw [List.length_take, Nat.min_eq_left (by omega)] at h2
  have hp : (2 : Nat) ^ (8 * q + r) = 256 ^ q * 2 ^ r := by rw [Nat.pow_add, Nat.pow_mul]
  rw [hp, ← Nat.div_div_eq_div_mul, h1, Nat.add_mul_div_left _ _ (Nat.pos_of_ne_zero (by omega)), Nat.div_eq_of_lt h2, Nat.zero_add]
  generalize bval (l.drop (q + 1)) = R
  generalize c.toNat = C
  match r, hr with
  | 0, _ => omega
  | 1, _ => omega
  | 2, _ => omega
  | 3, _ => omega
  | 4, _ => omega
  | 5, _ => omega
  | 6, _ => omega
  | 7, _ => omega
theorem u8_and1 (n : Nat) (h : n < 256) : bits .and .u8 (n : Int) 1 = ((n % 2 : Nat) : Int) := by
  have : ∀ m : Fin 256, bits .and .u8 (m.val : Int) 1 = ((m.val % 2 : Nat) : Int) := by decide +kernel
  exact this ⟨n, h⟩
theorem enPlusM (args : Array Value) (w : World) : (callFunc 31 args).run Tryd.prog w = .ok (.enter 31 args) w := by kernel_rfl
/-- How often: the number of the first 32 bytes. -/
def mulV (l : List UInt8) : Nat := bval (l.take 32)
set_option maxRecDepth 100000 in
set_option maxHeartbeats 6400000 in
theorem mulP_any {v : Array Value} {P : Ed} (A : Option Addr) (n c : Nat) (l : List UInt8) (w : World) (hv : PtV v P) (hl : l.length = n) (hn : n ≤ 1000) (hr : Rd w (.slice A n c) 1 n (bvs l)) :
    Calls Tryd.prog 11 #[.agg v, .slice A n c] w (ResV w (tmE P (mulV l))) := by
  obtain ⟨m, hm⟩ : ∃ m, m = min n 32 := ⟨_, rfl⟩
  have hmi : min (n : Int) 32 = (m : Int) := by omega
  have hmi2 : (if (n : Int) ≤ 32 then (n : Int) else 32) = (m : Int) := by split <;> omega
  have hmi3 : (if (32 : Int) < (n : Int) then (32 : Int) else (n : Int)) = (m : Int) := by split <;> omega
  have hm32 : m ≤ 32 := by omega
  have hmn : m ≤ n := by omega
  have HM := hide (show mulV l < 256 ^ m by
    unfold mulV
    have := bval_lt (l.take 32)
    rw [List.length_take, hl] at this
    rw [hm, Nat.min_comm]
    exact this)
  have HBIT := hide (fun (i k : Nat) (c : UInt8) (hc : l[i]? = some c) (hi : i < m) (hk : k < 8) => show c.toNat / 2 ^ k % 2 = mulV l / 2 ^ (8 * i + k) % 2 from by
    have h : (l.take 32)[i]? = some c := by rw [List.getElem?_take_of_lt (by omega)]; exact hc
    exact bval_bit (l.take 32) h hk)
  have HR := hide hr
  have HL := hide hl
  generalize mulV l = V at *
  have HS := hide (St.init w NoB)
  clear hr hl hm
  go_enter Tryd.func11, Tryd.ntmps11
  go_wp2_with (first | (go_at_call 30; (with_reducible refine (wholeP _ (by assumption)).mono ?_); rintro e wy ⟨z, hz, rfl, hb⟩; try have HS := hide (HS.out.call hb)) | (go_at_call 29; (with_reducible refine (numD _).mono ?_); rintro e wy ⟨z, hz, rfl, hb⟩; try have HS := hide (HS.out.call hb)) | (go_at_call 23; (with_reducible refine (zeroP _).mono ?_); rintro e wy ⟨z, hz, rfl, hb⟩; try have HS := hide (HS.out.call hb)) | (refine wl_loadP rfl rfl rfl HS.out (by (repeat first | exact .head _ | apply List.Mem.tail)) (by first | exact rowE | exact rowP | exact rowN | exact rowQ) (by (first | exact .q0 (EA.arr ‹_›) | exact .q1 (EA.arr ‹_›) (EA.arr ‹_›) | exact .q2 (EA.arr ‹_›) (EA.arr ‹_›) (EA.arr ‹_›) | exact .q3 (EA.arr ‹_›) (EA.arr ‹_›) (EA.arr ‹_›) (EA.arr ‹_›) | exact .q0 (NA.arr ‹_›) | exact .q1 (NA.arr ‹_›) (NA.arr ‹_›) | exact .q2 (NA.arr ‹_›) (NA.arr ‹_›) (NA.arr ‹_›) | exact .q3 (NA.arr ‹_›) (NA.arr ‹_›) (NA.arr ‹_›) (NA.arr ‹_›) | exact .all (by (first | exact EA.arr ‹_› | exact NA.arr ‹_› | exact arr_zE | exact arr_zN | exact arr_zP | exact arr_zQ | exact PtN.arr ‹_› | exact PtV.arr ‹_› | exact QtN.arr ‹_› | exact qE ‹_› ‹_› ‹_› ‹_› | exact qN ‹_› ‹_› ‹_› ‹_›)))) ?_; (try simp only [Act.put, nq1, nq2, nq3, nq4, nq5, nq6])) | (refine wl_storeR rfl rfl rfl rfl HS.out (by first | exact rowE | exact rowP | exact rowN | exact rowQ) (by (repeat first | exact .head | apply Upd.tail)) (by (first | exact EA.arr ‹_› | exact NA.arr ‹_› | exact arr_zE | exact arr_zN | exact arr_zP | exact arr_zQ | exact PtN.arr ‹_› | exact PtV.arr ‹_› | exact QtN.arr ‹_› | exact qE ‹_› ‹_› ‹_› ‹_› | exact qN ‹_› ‹_› ‹_› ‹_›)) (by (first | exact EA.arr ‹_› | exact NA.arr ‹_› | exact arr_zE | exact arr_zN | exact arr_zP | exact arr_zQ | exact PtN.arr ‹_› | exact PtV.arr ‹_› | exact QtN.arr ‹_› | exact qE ‹_› ‹_› ‹_› ‹_› | exact qN ‹_› ‹_› ‹_› ‹_›)) ?_; intro wz hS9; have HS := hide hS9; clear hS9; (try simp only [Act.put, nq1, nq2, nq3, nq4, nq5, nq6])) | (refine wl_allocR rfl rfl HS.out (by first | exact newE | exact newP | exact newN | exact newQ) ?_; intro gz wz hS9; have HS := hide hS9; clear hS9; (try simp only [Act.put, nq1, nq2, nq3, nq4, nq5, nq6])) | (refine wl_boxR rfl rfl rfl HS.out ?_; intro gz wz hS9; have HS := hide hS9; clear hS9; (try simp only [Act.put, nq1, nq2, nq3, nq4, nq5, nq6])))
  rename_i HSa gP wa HSb gR wb HSc wc uP huP hbP HSd wd HSe we uD huD hbD HSf gD wf HSg wg HSh HSi wh HSj K1 a1
  clear HSa HSb HSc hbP HSd HSe hbD HSf HSg HSh HSi HSj hb
  go_loopw [8] (fun iv wr => ∃ (j : Nat) (u : Array Value), j ≤ m ∧ iv = .int .i64 ((j : Int) - 1) ∧ Hid (PtN u (tmE P (V / 2 ^ (8 * j)))) ∧ Hid (St w NoB wr [.cells gz u 29, .cells gD uD 27, .cells gR zP 29, .cells gP uP 29])) (fun iv _ => (1 + intOf iv).toNat)
  case atStart =>
    refine ⟨m, z, by omega, rfl, hide ?_, HS⟩
    have h := HM.out
    rw [show (256 : Nat) ^ m = 2 ^ (8 * m) from by rw [Nat.pow_mul]] at h
    rw [Nat.div_eq_of_lt h]
    exact hz
  case round =>
    clear HS hz
    obtain ⟨j, u, hj, rfl, HU, HS⟩ := hrel
    cases j with
    | zero =>
      have e0 : ((0 : Nat) : Int) - 1 = -1 := by omega
      simp only [e0]
      have hu := HU.out
      go_wp2_with (first | (refine wl_loadP rfl rfl rfl HS.out (by (repeat first | exact .head _ | apply List.Mem.tail)) (by first | exact rowE | exact rowP | exact rowN | exact rowQ) (by (first | exact .q0 (EA.arr ‹_›) | exact .q1 (EA.arr ‹_›) (EA.arr ‹_›) | exact .q2 (EA.arr ‹_›) (EA.arr ‹_›) (EA.arr ‹_›) | exact .q3 (EA.arr ‹_›) (EA.arr ‹_›) (EA.arr ‹_›) (EA.arr ‹_›) | exact .q0 (NA.arr ‹_›) | exact .q1 (NA.arr ‹_›) (NA.arr ‹_›) | exact .q2 (NA.arr ‹_›) (NA.arr ‹_›) (NA.arr ‹_›) | exact .q3 (NA.arr ‹_›) (NA.arr ‹_›) (NA.arr ‹_›) (NA.arr ‹_›) | exact .all (by (first | exact EA.arr ‹_› | exact NA.arr ‹_› | exact arr_zE | exact arr_zN | exact arr_zP | exact arr_zQ | exact PtN.arr ‹_› | exact PtV.arr ‹_› | exact QtN.arr ‹_› | exact qE ‹_› ‹_› ‹_› ‹_› | exact qN ‹_› ‹_› ‹_› ‹_›)))) ?_; (try simp only [Act.put, nq1, nq2, nq3, nq4, nq5, nq6])) | (refine wl_storeR rfl rfl rfl rfl HS.out (by first | exact rowE | exact rowP | exact rowN | exact rowQ) (by (repeat first | exact .head | apply Upd.tail)) (by (first | exact EA.arr ‹_› | exact NA.arr ‹_› | exact arr_zE | exact arr_zN | exact arr_zP | exact arr_zQ | exact PtN.arr ‹_› | exact PtV.arr ‹_› | exact QtN.arr ‹_› | exact qE ‹_› ‹_› ‹_› ‹_› | exact qN ‹_› ‹_› ‹_› ‹_›)) (by (first | exact EA.arr ‹_› | exact NA.arr ‹_› | exact arr_zE | exact arr_zN | exact arr_zP | exact arr_zQ | exact PtN.arr ‹_› | exact PtV.arr ‹_› | exact QtN.arr ‹_› | exact qE ‹_› ‹_› ‹_› ‹_› | exact qN ‹_› ‹_› ‹_› ‹_›)) ?_; intro wz hS9; have HS := hide hS9; clear hS9; (try simp only [Act.put, nq1, nq2, nq3, nq4, nq5, nq6])) | (refine wl_allocR rfl rfl HS.out (by first | exact newE | exact newP | exact newN | exact newQ) ?_; intro gz wz hS9; have HS := hide hS9; clear hS9; (try simp only [Act.put, nq1, nq2, nq3, nq4, nq5, nq6])) | (refine wl_boxR rfl rfl rfl HS.out ?_; intro gz wz hS9; have HS := hide hS9; clear hS9; (try simp only [Act.put, nq1, nq2, nq3, nq4, nq5, nq6])))
      refine bodyPost_ret (results_cell_row rfl _ _ _ _ _ _ _ rfl (HS.out.heapM (by (repeat first | exact .head _ | apply List.Mem.tail))) Tryd.underlying29 rfl (by first | (rw [(EA.arr ‹_›).size]; kernel_rfl) | (rw [(NA.arr ‹_›).size]; kernel_rfl) | (rw [(qE ‹_› ‹_› ‹_› ‹_›).size]; kernel_rfl) | (rw [(qN ‹_› ‹_› ‹_› ‹_›).size]; kernel_rfl) | (rw [(PtN.arr ‹_›).size]; kernel_rfl) | (rw [(PtV.arr ‹_›).size]; kernel_rfl) | (rw [(QtN.arr ‹_›).size]; kernel_rfl))) rfl ?_
      rw [Nat.mul_zero, Nat.pow_zero, Nat.div_one] at hu
      exact ⟨_, hu, rfl, HS.out.below⟩
    | succ j =>
      have e1 : (((j + 1 : Nat) : Int) - 1) = (j : Int) := by omega
      simp only [e1]
      have di : decide ((0 : Int) ≤ (j : Int)) = true := by simp
      have jn : (j : Int) < (n : Int) := by omega
      have j32 : (j : Int) < 32 := by omega
      obtain ⟨cb, hxb⟩ : ∃ cb, l[j]? = some cb := ⟨l[j]'(by have := HL.out; omega), List.getElem?_eq_getElem _⟩
      obtain ⟨b, o, rfl, hcb⟩ := rd_at' HR.out (bvs_get hxb)
      have hbl := World.block_lt_of_cell? _ _ hcb
      obtain ⟨ch, hch⟩ : ∃ c : Nat, c = cb.toNat := ⟨_, rfl⟩
      have HBB := hide (fun k hk => HBIT.out j k cb hxb (by omega) hk)
      have hc8 : ch < 256 := by rw [hch]; exact UInt8.toNat_lt _
      rw [← hch] at hcb HBB
      have HB := hide (fun W (h : Below w.heap.size w W) => (h.cell (p := ⟨b, o + j, none⟩) hbl).trans hcb)
      have HJ := hide hj
      clear hxb hch hcb hbl hj e1
      go_wp2_with fail
      go_loopw [9] (fun kv wr => ∃ (q : Nat) (u : Array Value), q ≤ 8 ∧ kv = .int .i64 ((q : Int) - 1) ∧ Hid (PtN u (tmE P (V / 2 ^ (8 * j + q)))) ∧ Hid (St w NoB wr [.cells gz u 29, .cells gD uD 27, .cells gR zP 29, .cells gP uP 29])) (fun kv _ => (1 + intOf kv).toNat)
      case atStart => exact ⟨8, u, by omega, by first | rfl | go_num, HU, HS⟩
      case round =>
        clear HS HU
        obtain ⟨q, u2, hq, rfl, HU, HS⟩ := hrel
        cases q with
        | zero =>
          have e0 : ((0 : Nat) : Int) - 1 = -1 := by omega
          simp only [e0]
          go_wp2_with fail
          go_roundw
          case rel => exact ⟨j, u2, by have := HJ.out; omega, by first | rfl | go_num, HU, HS⟩
          case measure => (simp [intOf]) <;> omega
        | succ r =>
          have e1 : (((r + 1 : Nat) : Int) - 1) = (r : Int) := by omega
          simp only [e1]
          have dr : decide ((0 : Int) ≤ (r : Int)) = true := by simp
          have r8 : (r : Int) < 8 := by omega
          obtain ⟨bt, hbt⟩ : ∃ t, t = ch / 2 ^ r % 2 := ⟨_, rfl⟩
          obtain ⟨cs, hcs⟩ : ∃ t, t = ch / 2 ^ r := ⟨_, rfl⟩
          have s1 : (ch : Int) / 2 ^ r = (cs : Int) := by rw [hcs, Int.natCast_ediv, Int.natCast_pow]; rfl
          have cs8' : cs < 256 := by have := Nat.div_le_self ch (2 ^ r); omega
          have cs8 : (cs : Int) < 256 := by omega
          have s2 : bits .and .u8 (cs : Int) 1 = (bt : Int) := by rw [u8_and1 _ cs8', hbt, ← hcs]
          have hbit := HBB.out r (by omega)
          rw [← hbt] at hbit
          have hu := HU.out
          have HSTEP := hide (tmE_bit P V (8 * j + r))
          rw [← hbit] at HSTEP
          clear hbt hcs hbit e1 cs8'
          have HR9 := hide hq
          by_cases hb1 : bt = 1
          · subst hb1
            rw [if_pos rfl] at HSTEP
            go_wp2_with (first | (go_at_call 31; (with_reducible refine (plusP _ hu2 huP huD).mono ?_); rintro e wy ⟨z, hu3, rfl, hb⟩; have HS := hide (HS.out.call hb); clear hb) | (go_at_call 31; (with_reducible refine (plusP _ hu hu huD).mono ?_); rintro e wy ⟨z, hu2, rfl, hb⟩; have HS := hide (HS.out.call hb); clear hb) | (refine wl_storeR rfl rfl rfl rfl HS.out rowP .head (PtN.arr hu2) (PtN.arr hu3) ?_; intro wz hS9; have HS := hide hS9; have hq := HB.out _ hS9.below; clear hS9; (try simp only [Act.put, nq1, nq2, nq3, nq4, nq5, nq6])) | (refine wl_storeR rfl rfl rfl rfl HS.out rowP .head (PtN.arr hu) (PtN.arr hu2) ?_; intro wz hS9; have HS := hide hS9; have hq := HB.out _ hS9.below; clear hS9; (try simp only [Act.put, nq1, nq2, nq3, nq4, nq5, nq6])) | (refine wl_loadP rfl rfl rfl HS.out (.tail _ (.tail _ (.tail _ (.head _)))) rowP (.all (PtN.arr huP)) ?_; (try simp only [Act.put, nq1, nq2, nq3, nq4, nq5, nq6])) | (refine wl_loadP rfl rfl rfl HS.out (.head _) rowP (.all (PtN.arr hu2)) ?_; (try simp only [Act.put, nq1, nq2, nq3, nq4, nq5, nq6])) | (refine wl_loadP rfl rfl rfl HS.out (.head _) rowP (.all (PtN.arr hu)) ?_; (try simp only [Act.put, nq1, nq2, nq3, nq4, nq5, nq6])) | (refine wl_loadP rfl rfl rfl HS.out (.tail _ (.head _)) rowE (.all huD.arr) ?_; (try simp only [Act.put, nq1, nq2, nq3, nq4, nq5, nq6])))
            go_roundw
            case rel => exact ⟨r, _, by have := HR9.out; omega, by first | rfl | go_num, hide (by rw [HSTEP.out]; assumption), HS⟩
            case measure => (simp [intOf]) <;> omega
          · have b0 : (((bt : Nat) : Int) == 1) = false := by simp; omega
            have b0' : (bt == 1) = false := by simp; omega
            have b0d : decide (((bt : Nat) : Int) = 1) = false := by simp; omega
            rw [if_neg hb1] at HSTEP
            clear hb1
            go_wp2_with (first | (go_at_call 31; (with_reducible refine (plusP _ hu hu huD).mono ?_); rintro e wy ⟨z, hu2, rfl, hb⟩; have HS := hide (HS.out.call hb); clear hb) | (refine wl_storeR rfl rfl rfl rfl HS.out rowP .head (PtN.arr hu) (PtN.arr hu2) ?_; intro wz hS9; have HS := hide hS9; have hq := HB.out _ hS9.below; clear hS9; (try simp only [Act.put, nq1, nq2, nq3, nq4, nq5, nq6])) | (refine wl_loadP rfl rfl rfl HS.out (.head _) rowP (.all (PtN.arr hu)) ?_; (try simp only [Act.put, nq1, nq2, nq3, nq4, nq5, nq6])) | (refine wl_loadP rfl rfl rfl HS.out (.tail _ (.head _)) rowE (.all huD.arr) ?_; (try simp only [Act.put, nq1, nq2, nq3, nq4, nq5, nq6])))
            go_roundw
            case rel => exact ⟨r, _, by have := HR9.out; omega, by first | rfl | go_num, hide (by rw [HSTEP.out]; assumption), HS⟩
            case measure => (simp [intOf]) <;> omega
end Go.Proofs.YtgahjjdbpjgemaaDoor

/-
  Layer 4: the code's bytes of a point; are two the same; is eight times a point nothing.
-/
namespace Go.Proofs.YtgahjjdbpjgemaaDoor
open Go.RowKit
set_option linter.unusedSimpArgs false

theorem u8_or128 (n : Nat) (h : n < 128) : bits .or .u8 (n : Int) 128 = ((n + 128 : Nat) : Int) := by
  have : ∀ m : Fin 128, bits .or .u8 (m.val : Int) 128 = ((m.val + 128 : Nat) : Int) := by decide +kernel
  exact this ⟨n, h⟩
theorem list_top {l : List UInt8} {r : Nat} (hl : l.length = 31) (x : UInt8) : (l ++ [UInt8.ofNat r])[31]? = some (UInt8.ofNat r) ∧ (l ++ [UInt8.ofNat r]).set 31 x = l ++ [x] := by
  constructor
  · rw [List.getElem?_append_right (by omega), hl]; rfl
  · rw [List.set_append_right _ _ (by omega), hl]; rfl
set_option maxRecDepth 100000 in
set_option maxHeartbeats 1600000 in
theorem bytesP {v : Array Value} {P : Ed} (w : World) (hv : PtV v P) : Calls Tryd.prog 15 #[.agg v] w (ResB 5 w (packL P)) := by
  have HS := hide (St.init w NoB)
  obtain ⟨l, r, hl31, hr128, e1, e2⟩ := top_bit P.y.val (Nat.lt_trans P.y.isLt pq_255)
  have HE1 := hide e1
  have HE2 := hide e2
  have HL31 := hide hl31
  have hpk : packL P = if P.x.val % 2 = 1 then l ++ [UInt8.ofNat (r + 128)] else l ++ [UInt8.ofNat r] := by
    unfold packL packN
    split
    · exact e2
    · rw [Nat.add_zero]; exact e1
  have HPK := hide hpk
  have hlen : (l ++ [UInt8.ofNat r]).length = 32 := by rw [List.length_append, hl31]; rfl
  have HLEN := hide hlen
  clear e1 e2 hpk hl31 hlen
  go_enter Tryd.func15, Tryd.ntmps15
  go_upto_region 4 with (first
    | (go_at_call 30; (with_reducible refine (wholeP _ (by assumption)).mono ?_); rintro e wy ⟨v2, hv2, rfl, hb⟩; obtain ⟨⟨X, Y, Z, T⟩, a, b, c, d, rfl, h1, h2, h3, h4, h5⟩ := hv2.ex; have HS := hide (HS.out.call hb))
    | (go_at_call 35; (with_reducible refine (invA _ h3).mono ?_); rintro e wy ⟨zi, hzi, rfl, hb⟩; have HS := hide (HS.out.call hb))
    | (go_at_call 36; (with_reducible refine (mulA _ h2 hzi).mono ?_); rintro e wy ⟨zy, hzy, rfl, hb⟩; rw [rp_y h5] at hzy; have HS := hide (HS.out.call hb))
    | (go_at_call 37; (with_reducible refine (bytesA _ hzy).mono ?_); rintro e wy hRB; rw [HE1.out] at hRB; obtain ⟨B, dd, rfl, hb, ho⟩ := hRB; rw [HLEN.out] at ho ⊢; have HS := hide (HS.out.row hb ho); clear ho)
    | (refine wl_loadP rfl rfl rfl HS.out (by (repeat first | exact .head _ | apply List.Mem.tail)) (by first | exact rowE | exact rowP | exact rowN | exact rowQ) (by (first | exact .q0 (EA.arr ‹_›) | exact .q1 (EA.arr ‹_›) (EA.arr ‹_›) | exact .q2 (EA.arr ‹_›) (EA.arr ‹_›) (EA.arr ‹_›) | exact .q3 (EA.arr ‹_›) (EA.arr ‹_›) (EA.arr ‹_›) (EA.arr ‹_›) | exact .q0 (NA.arr ‹_›) | exact .q1 (NA.arr ‹_›) (NA.arr ‹_›) | exact .q2 (NA.arr ‹_›) (NA.arr ‹_›) (NA.arr ‹_›) | exact .q3 (NA.arr ‹_›) (NA.arr ‹_›) (NA.arr ‹_›) (NA.arr ‹_›) | exact .all (by (first | exact EA.arr ‹_› | exact NA.arr ‹_› | exact arr_zE | exact arr_zN | exact arr_zP | exact arr_zQ | exact PtN.arr ‹_› | exact PtV.arr ‹_› | exact QtN.arr ‹_› | exact qE ‹_› ‹_› ‹_› ‹_› | exact qN ‹_› ‹_› ‹_› ‹_›)))) ?_; (try simp only [Act.put, nq1, nq2, nq3, nq4, nq5, nq6])) | (refine wl_storeR rfl rfl rfl rfl HS.out (by first | exact rowE | exact rowP | exact rowN | exact rowQ) (by (repeat first | exact .head | apply Upd.tail)) (by (first | exact EA.arr ‹_› | exact NA.arr ‹_› | exact arr_zE | exact arr_zN | exact arr_zP | exact arr_zQ | exact PtN.arr ‹_› | exact PtV.arr ‹_› | exact QtN.arr ‹_› | exact qE ‹_› ‹_› ‹_› ‹_› | exact qN ‹_› ‹_› ‹_› ‹_›)) (by (first | exact EA.arr ‹_› | exact NA.arr ‹_› | exact arr_zE | exact arr_zN | exact arr_zP | exact arr_zQ | exact PtN.arr ‹_› | exact PtV.arr ‹_› | exact QtN.arr ‹_› | exact qE ‹_› ‹_› ‹_› ‹_› | exact qN ‹_› ‹_› ‹_› ‹_›)) ?_; intro wz hS9; have HS := hide hS9; clear hS9; (try simp only [Act.put, nq1, nq2, nq3, nq4, nq5, nq6])) | (refine wl_allocR rfl rfl HS.out (by first | exact newE | exact newP | exact newN | exact newQ) ?_; intro gz wz hS9; have HS := hide hS9; clear hS9; (try simp only [Act.put, nq1, nq2, nq3, nq4, nq5, nq6])) | (refine wl_boxR rfl rfl rfl HS.out ?_; intro gz wz hS9; have HS := hide hS9; clear hS9; (try simp only [Act.put, nq1, nq2, nq3, nq4, nq5, nq6])))
  have gB : ((bvs (l ++ [UInt8.ofNat r]))[31]? = some (.int .u8 (r : Int))) := by
    rw [bvs_get (list_top HL31.out (UInt8.ofNat r)).1, UInt8.toNat_ofNat', Nat.mod_eq_of_lt (by omega)]
  have GB := hide gB
  have hor := u8_or128 r hr128
  have HR := hide hr128
  clear gB
  have hx31 := rp_x h5
  by_cases hodd : P.x.val % 2 = 1
  · go_wp2_with (first
      | (go_at_call 36; (with_reducible refine (mulA _ h1 hzi).mono ?_); rintro e wy ⟨zx, hzx, rfl, hb⟩; rw [hx31] at hzx; have HS := hide (HS.out.call hb))
      | (go_at_call 38; (with_reducible refine (oddA _ hzx).mono ?_); rintro e wy ⟨rfl, hb⟩; rw [decide_eq_true hodd]; have HS := hide (HS.out.call hb); obtain ⟨g, c1, hvv, _, _, hcs, hfr, _⟩ := HS.out.rowOpen 0 rfl (by omega); injection hvv with hvv1 _ hvv3; subst hvv1 hvv3; have k31 := hcs 31 _ GB.out; have f31 := hfr 31; have HS9 := hide HS.out; clear hcs hfr)
      | (refine wl_loadP rfl rfl rfl HS.out (by (repeat first | exact .head _ | apply List.Mem.tail)) (by first | exact rowE | exact rowP | exact rowN | exact rowQ) (by (first | exact .q0 (EA.arr ‹_›) | exact .q1 (EA.arr ‹_›) (EA.arr ‹_›) | exact .q2 (EA.arr ‹_›) (EA.arr ‹_›) (EA.arr ‹_›) | exact .q3 (EA.arr ‹_›) (EA.arr ‹_›) (EA.arr ‹_›) (EA.arr ‹_›) | exact .q0 (NA.arr ‹_›) | exact .q1 (NA.arr ‹_›) (NA.arr ‹_›) | exact .q2 (NA.arr ‹_›) (NA.arr ‹_›) (NA.arr ‹_›) | exact .q3 (NA.arr ‹_›) (NA.arr ‹_›) (NA.arr ‹_›) (NA.arr ‹_›) | exact .all (by (first | exact EA.arr ‹_› | exact NA.arr ‹_› | exact arr_zE | exact arr_zN | exact arr_zP | exact arr_zQ | exact PtN.arr ‹_› | exact PtV.arr ‹_› | exact QtN.arr ‹_› | exact qE ‹_› ‹_› ‹_› ‹_› | exact qN ‹_› ‹_› ‹_› ‹_›)))) ?_; (try simp only [Act.put, nq1, nq2, nq3, nq4, nq5, nq6])) | (refine wl_storeR rfl rfl rfl rfl HS.out (by first | exact rowE | exact rowP | exact rowN | exact rowQ) (by (repeat first | exact .head | apply Upd.tail)) (by (first | exact EA.arr ‹_› | exact NA.arr ‹_› | exact arr_zE | exact arr_zN | exact arr_zP | exact arr_zQ | exact PtN.arr ‹_› | exact PtV.arr ‹_› | exact QtN.arr ‹_› | exact qE ‹_› ‹_› ‹_› ‹_› | exact qN ‹_› ‹_› ‹_› ‹_›)) (by (first | exact EA.arr ‹_› | exact NA.arr ‹_› | exact arr_zE | exact arr_zN | exact arr_zP | exact arr_zQ | exact PtN.arr ‹_› | exact PtV.arr ‹_› | exact QtN.arr ‹_› | exact qE ‹_› ‹_› ‹_› ‹_› | exact qN ‹_› ‹_› ‹_› ‹_›)) ?_; intro wz hS9; have HS := hide hS9; clear hS9; (try simp only [Act.put, nq1, nq2, nq3, nq4, nq5, nq6])) | (refine wl_allocR rfl rfl HS.out (by first | exact newE | exact newP | exact newN | exact newQ) ?_; intro gz wz hS9; have HS := hide hS9; clear hS9; (try simp only [Act.put, nq1, nq2, nq3, nq4, nq5, nq6])) | (refine wl_boxR rfl rfl rfl HS.out ?_; intro gz wz hS9; have HS := hide hS9; clear hS9; (try simp only [Act.put, nq1, nq2, nq3, nq4, nq5, nq6])))
    go_ret
    have h9 := HS9.out.rowSet 0 rfl 31 (.int .u8 ((r + 128 : Nat) : Int)) (by omega)
    rw [bvs_set _ _ _ (by have := HR.out; omega), (list_top HL31.out _).2] at h9
    refine resB_of h9 0 rfl ?_
    rw [HPK.out, if_pos hodd]
  · go_wp2_with (first
      | (go_at_call 36; (with_reducible refine (mulA _ h1 hzi).mono ?_); rintro e wy ⟨zx, hzx, rfl, hb⟩; rw [hx31] at hzx; have HS := hide (HS.out.call hb))
      | (go_at_call 38; (with_reducible refine (oddA _ hzx).mono ?_); rintro e wy ⟨rfl, hb⟩; rw [decide_eq_false hodd]; have HS := hide (HS.out.call hb))
      | (refine wl_loadP rfl rfl rfl HS.out (by (repeat first | exact .head _ | apply List.Mem.tail)) (by first | exact rowE | exact rowP | exact rowN | exact rowQ) (by (first | exact .q0 (EA.arr ‹_›) | exact .q1 (EA.arr ‹_›) (EA.arr ‹_›) | exact .q2 (EA.arr ‹_›) (EA.arr ‹_›) (EA.arr ‹_›) | exact .q3 (EA.arr ‹_›) (EA.arr ‹_›) (EA.arr ‹_›) (EA.arr ‹_›) | exact .q0 (NA.arr ‹_›) | exact .q1 (NA.arr ‹_›) (NA.arr ‹_›) | exact .q2 (NA.arr ‹_›) (NA.arr ‹_›) (NA.arr ‹_›) | exact .q3 (NA.arr ‹_›) (NA.arr ‹_›) (NA.arr ‹_›) (NA.arr ‹_›) | exact .all (by (first | exact EA.arr ‹_› | exact NA.arr ‹_› | exact arr_zE | exact arr_zN | exact arr_zP | exact arr_zQ | exact PtN.arr ‹_› | exact PtV.arr ‹_› | exact QtN.arr ‹_› | exact qE ‹_› ‹_› ‹_› ‹_› | exact qN ‹_› ‹_› ‹_› ‹_›)))) ?_; (try simp only [Act.put, nq1, nq2, nq3, nq4, nq5, nq6])) | (refine wl_storeR rfl rfl rfl rfl HS.out (by first | exact rowE | exact rowP | exact rowN | exact rowQ) (by (repeat first | exact .head | apply Upd.tail)) (by (first | exact EA.arr ‹_› | exact NA.arr ‹_› | exact arr_zE | exact arr_zN | exact arr_zP | exact arr_zQ | exact PtN.arr ‹_› | exact PtV.arr ‹_› | exact QtN.arr ‹_› | exact qE ‹_› ‹_› ‹_› ‹_› | exact qN ‹_› ‹_› ‹_› ‹_›)) (by (first | exact EA.arr ‹_› | exact NA.arr ‹_› | exact arr_zE | exact arr_zN | exact arr_zP | exact arr_zQ | exact PtN.arr ‹_› | exact PtV.arr ‹_› | exact QtN.arr ‹_› | exact qE ‹_› ‹_› ‹_› ‹_› | exact qN ‹_› ‹_› ‹_› ‹_›)) ?_; intro wz hS9; have HS := hide hS9; clear hS9; (try simp only [Act.put, nq1, nq2, nq3, nq4, nq5, nq6])) | (refine wl_allocR rfl rfl HS.out (by first | exact newE | exact newP | exact newN | exact newQ) ?_; intro gz wz hS9; have HS := hide hS9; clear hS9; (try simp only [Act.put, nq1, nq2, nq3, nq4, nq5, nq6])) | (refine wl_boxR rfl rfl rfl HS.out ?_; intro gz wz hS9; have HS := hide hS9; clear hS9; (try simp only [Act.put, nq1, nq2, nq3, nq4, nq5, nq6])))
    go_ret
    refine resB_of HS.out 0 rfl ?_
    rw [HPK.out, if_neg hodd]
end Go.Proofs.YtgahjjdbpjgemaaDoor

/-
  Layer 4: the code's Same and Small.
-/
namespace Go.Proofs.YtgahjjdbpjgemaaDoor
open Go.RowKit
set_option linter.unusedSimpArgs false

theorem bytesP32 {v : Array Value} {P : Ed} (w : World) (hv : PtV v P) : Calls Tryd.prog 15 #[.agg v] w fun e w' => ∃ A c, e = .returned (.slice A 32 c) ∧ Below w.heap.size w w' ∧ w'.ownsRow w.heap.size 5 1 (.slice A 32 c) 32 (bvs (packL P)) :=
  (bytesP w hv).mono fun e w' h => by
    unfold ResB at h
    rw [packL_len] at h
    exact h
theorem enBytesP (args : Array Value) (w : World) : (callFunc 15 args).run Tryd.prog w = .ok (.enter 15 args) w := by kernel_rfl
theorem pack_dec (P Q : Ed) [Decidable (P = Q)] : decide (packL P = packL Q) = decide (P = Q) := by
  by_cases h : P = Q
  · rw [decide_eq_true h, decide_eq_true (by rw [h])]
  · rw [decide_eq_false h, decide_eq_false fun e => h (packL_inj e)]
set_option maxRecDepth 100000 in
set_option maxHeartbeats 1600000 in
theorem sameP {u v : Array Value} {P Q : Ed} (w : World) (hu : PtV u P) (hv : PtV v Q) : Calls Tryd.prog 21 #[.agg u, .agg v] w fun e w' => e = .returned (.bool (decide (packL P = packL Q))) ∧ Below w.heap.size w w' := by
  have HS := hide (St.init w NoB)
  go_enter Tryd.func21, Tryd.ntmps21
  go_wp2_with (first | (refine wl_loadP rfl rfl rfl HS.out (by (repeat first | exact .head _ | apply List.Mem.tail)) (by first | exact rowE | exact rowP | exact rowN | exact rowQ) (by (first | exact .q0 (EA.arr ‹_›) | exact .q1 (EA.arr ‹_›) (EA.arr ‹_›) | exact .q2 (EA.arr ‹_›) (EA.arr ‹_›) (EA.arr ‹_›) | exact .q3 (EA.arr ‹_›) (EA.arr ‹_›) (EA.arr ‹_›) (EA.arr ‹_›) | exact .q0 (NA.arr ‹_›) | exact .q1 (NA.arr ‹_›) (NA.arr ‹_›) | exact .q2 (NA.arr ‹_›) (NA.arr ‹_›) (NA.arr ‹_›) | exact .q3 (NA.arr ‹_›) (NA.arr ‹_›) (NA.arr ‹_›) (NA.arr ‹_›) | exact .all (by (first | exact EA.arr ‹_› | exact NA.arr ‹_› | exact arr_zE | exact arr_zN | exact arr_zP | exact arr_zQ | exact PtN.arr ‹_› | exact PtV.arr ‹_› | exact QtN.arr ‹_› | exact qE ‹_› ‹_› ‹_› ‹_› | exact qN ‹_› ‹_› ‹_› ‹_›)))) ?_; (try simp only [Act.put, nq1, nq2, nq3, nq4, nq5, nq6])) | (refine wl_storeR rfl rfl rfl rfl HS.out (by first | exact rowE | exact rowP | exact rowN | exact rowQ) (by (repeat first | exact .head | apply Upd.tail)) (by (first | exact EA.arr ‹_› | exact NA.arr ‹_› | exact arr_zE | exact arr_zN | exact arr_zP | exact arr_zQ | exact PtN.arr ‹_› | exact PtV.arr ‹_› | exact QtN.arr ‹_› | exact qE ‹_› ‹_› ‹_› ‹_› | exact qN ‹_› ‹_› ‹_› ‹_›)) (by (first | exact EA.arr ‹_› | exact NA.arr ‹_› | exact arr_zE | exact arr_zN | exact arr_zP | exact arr_zQ | exact PtN.arr ‹_› | exact PtV.arr ‹_› | exact QtN.arr ‹_› | exact qE ‹_› ‹_› ‹_› ‹_› | exact qN ‹_› ‹_› ‹_› ‹_›)) ?_; intro wz hS9; have HS := hide hS9; clear hS9; (try simp only [Act.put, nq1, nq2, nq3, nq4, nq5, nq6])) | (refine wl_allocR rfl rfl HS.out (by first | exact newE | exact newP | exact newN | exact newQ) ?_; intro gz wz hS9; have HS := hide hS9; clear hS9; (try simp only [Act.put, nq1, nq2, nq3, nq4, nq5, nq6])) | (refine wl_boxR rfl rfl rfl HS.out ?_; intro gz wz hS9; have HS := hide hS9; clear hS9; (try simp only [Act.put, nq1, nq2, nq3, nq4, nq5, nq6])))
  have HS := hide HS.out.drew
  refine wp_region_T [(0, 0), (2, 0), (1, 2), (3, 2), (4, 2), (5, 1)] (by kernel_rfl) (by kernel_rfl) (fun _ _ _ _ h => h) ?_
  refine wpT_loadP rfl rfl rfl rfl HS.out (.tail _ (.head _)) rowP (.all (by first | exact arr_zP | exact PtN.arr ‹_› | exact PtV.arr ‹_› | exact qE ‹_› ‹_› ‹_› ‹_›)) ?_; (try simp only [Act.put, nq1, nq2, nq3, nq4, nq5, nq6])
  refine wpT_loadP rfl rfl rfl rfl HS.out (.head _) rowP (.all (by first | exact arr_zP | exact PtN.arr ‹_› | exact PtV.arr ‹_› | exact qE ‹_› ‹_› ‹_› ‹_›)) ?_; (try simp only [Act.put, nq1, nq2, nq3, nq4, nq5, nq6])
  refine wpT_callF rfl rfl rfl enBytesP rfl (bytesP32 _ hu) ?_; rintro e wy ⟨A1, c1, rfl, hb, ho⟩; refine ⟨_, rfl, hb, ?_⟩; have HS := hide (HS.out.row hb ho); clear ho; (try simp only [Act.put, nq1, nq2, nq3, nq4, nq5, nq6])
  refine wpT_callF rfl rfl rfl enBytesP rfl (bytesP32 _ hv) ?_; rintro e wy ⟨A1, c1, rfl, hb, ho⟩; refine ⟨_, rfl, hb, ?_⟩; have HS := hide (HS.out.row hb ho); clear ho; (try simp only [Act.put, nq1, nq2, nq3, nq4, nq5, nq6])
  refine wpT_callF rfl rfl rfl enEqual rfl (equal_walk _ _ 32 _ _ _ _ _ (packL_len P) (packL_len Q) (by decide) (HS.out.rd 1 rfl) (HS.out.rd 0 rfl)) ?_; rintro e wy ⟨rfl, hb⟩; refine ⟨_, rfl, hb, ?_⟩; have HS := hide (HS.out.call hb); (try simp only [Act.put, nq1, nq2, nq3, nq4, nq5, nq6])
  (refine wpT_pure (v := ?_) rfl rfl ?_ ?_; rotate_left; (intro wx; go_simp; try go_bits) <;> (with_reducible rfl)); (try simp only [Act.put, nq1, nq2, nq3, nq4, nq5, nq6])
  refine wpT_nil ?_
  go_wp2_with fail
  go_ret
  exact ⟨rfl, HS.out.below⟩
set_option maxRecDepth 100000 in
set_option maxHeartbeats 1600000 in
theorem smallP {v : Array Value} {P : Ed} (w : World) (hv : PtV v P) : Calls Tryd.prog 27 #[.agg v] w fun e w' => e = .returned (.bool (decide (packL (tmE P 8) = packL .zero))) ∧ Below w.heap.size w w' := by
  have HS := hide (St.init w NoB)
  go_enter Tryd.func27, Tryd.ntmps27
  go_wp2_with (first
    | (go_at_call 11; (with_reducible refine (mulP_any _ 1 1 [8] _ hv rfl (by decide) (rd_new _ [.int .u8 8] 5 1 1 rfl (by decide))).mono ?_); rintro e wy ⟨z8, hz8, rfl, hb⟩; have HS := hide ((HS.out.skip _).call hb))
    | (go_at_call 23; (with_reducible refine (zeroP _).mono ?_); rintro e wy ⟨z0, hz0, rfl, hb⟩; have HS := hide (HS.out.call hb))
    | (go_at_call 21; (with_reducible refine (sameP _ hz8.v hz0.v).mono ?_); rintro e wy ⟨rfl, hb⟩; have HS := hide (HS.out.call hb))
    | (refine wl_loadP rfl rfl rfl HS.out (.head _) rowP (.all (by first | exact arr_zP | exact PtN.arr ‹_› | exact PtV.arr ‹_› | exact qE ‹_› ‹_› ‹_› ‹_›)) ?_; (try simp only [Act.put, nq1, nq2, nq3, nq4, nq5, nq6])) | (refine wl_loadP rfl rfl rfl HS.out (by (repeat first | exact .head _ | apply List.Mem.tail)) (by first | exact rowE | exact rowP | exact rowN | exact rowQ) (by (first | exact .q0 (EA.arr ‹_›) | exact .q1 (EA.arr ‹_›) (EA.arr ‹_›) | exact .q2 (EA.arr ‹_›) (EA.arr ‹_›) (EA.arr ‹_›) | exact .q3 (EA.arr ‹_›) (EA.arr ‹_›) (EA.arr ‹_›) (EA.arr ‹_›) | exact .q0 (NA.arr ‹_›) | exact .q1 (NA.arr ‹_›) (NA.arr ‹_›) | exact .q2 (NA.arr ‹_›) (NA.arr ‹_›) (NA.arr ‹_›) | exact .q3 (NA.arr ‹_›) (NA.arr ‹_›) (NA.arr ‹_›) (NA.arr ‹_›) | exact .all (by (first | exact EA.arr ‹_› | exact NA.arr ‹_› | exact arr_zE | exact arr_zN | exact arr_zP | exact arr_zQ | exact PtN.arr ‹_› | exact PtV.arr ‹_› | exact QtN.arr ‹_› | exact qE ‹_› ‹_› ‹_› ‹_› | exact qN ‹_› ‹_› ‹_› ‹_›)))) ?_; (try simp only [Act.put, nq1, nq2, nq3, nq4, nq5, nq6])) | (refine wl_storeR rfl rfl rfl rfl HS.out (by first | exact rowE | exact rowP | exact rowN | exact rowQ) (by (repeat first | exact .head | apply Upd.tail)) (by (first | exact EA.arr ‹_› | exact NA.arr ‹_› | exact arr_zE | exact arr_zN | exact arr_zP | exact arr_zQ | exact PtN.arr ‹_› | exact PtV.arr ‹_› | exact QtN.arr ‹_› | exact qE ‹_› ‹_› ‹_› ‹_› | exact qN ‹_› ‹_› ‹_› ‹_›)) (by (first | exact EA.arr ‹_› | exact NA.arr ‹_› | exact arr_zE | exact arr_zN | exact arr_zP | exact arr_zQ | exact PtN.arr ‹_› | exact PtV.arr ‹_› | exact QtN.arr ‹_› | exact qE ‹_› ‹_› ‹_› ‹_› | exact qN ‹_› ‹_› ‹_› ‹_›)) ?_; intro wz hS9; have HS := hide hS9; clear hS9; (try simp only [Act.put, nq1, nq2, nq3, nq4, nq5, nq6])) | (refine wl_allocR rfl rfl HS.out (by first | exact newE | exact newP | exact newN | exact newQ) ?_; intro gz wz hS9; have HS := hide hS9; clear hS9; (try simp only [Act.put, nq1, nq2, nq3, nq4, nq5, nq6])) | (refine wl_boxR rfl rfl rfl HS.out ?_; intro gz wz hS9; have HS := hide hS9; clear hS9; (try simp only [Act.put, nq1, nq2, nq3, nq4, nq5, nq6])))
  go_ret
  exact ⟨rfl, HS.out.below⟩
end Go.Proofs.YtgahjjdbpjgemaaDoor
