/-
  Joined of texts of mine, in build order: Bf, Bk, Bm, Bg, Bh, Bi, Bj, Bn. Each says what it proves at its own head.
-/
import Derived.Test.YtnohmgpmmhlloaaGreatDoorPc
set_option linter.unusedSimpArgs false
set_option linter.unusedVariables false

namespace Go.Proofs.YtnohmgpmmhlloaaGreatDoor
open Go.RowKit
set_option linter.unusedSimpArgs false

def zE : Array Value := #[.int .u64 0, .int .u64 0, .int .u64 0, .int .u64 0, .int .u64 0]
def zP : Array Value := #[.int .u64 0, .int .u64 0, .int .u64 0, .int .u64 0, .int .u64 0, .int .u64 0, .int .u64 0, .int .u64 0, .int .u64 0, .int .u64 0, .int .u64 0, .int .u64 0, .int .u64 0, .int .u64 0, .int .u64 0, .int .u64 0, .int .u64 0, .int .u64 0, .int .u64 0, .int .u64 0]
def zN : Array Value := (ivs (List.replicate 16 0)).toArray
def zQ : Array Value := (ivs (List.replicate 64 0)).toArray
theorem rowE : RowOf Tryz.prog 61 5 := ⟨⟨_, Tryz.underlying61, rfl⟩, by kernel_rfl⟩
theorem rowP : RowOf Tryz.prog 63 20 := ⟨⟨_, Tryz.underlying63, rfl⟩, by kernel_rfl⟩
theorem rowN : RowOf Tryz.prog 130 16 := ⟨⟨_, Tryz.underlying130, rfl⟩, by kernel_rfl⟩
theorem rowQ : RowOf Tryz.prog 132 64 := ⟨⟨_, Tryz.underlying132, rfl⟩, by kernel_rfl⟩
theorem newE : NewOf Tryz.prog 61 zE := fun x => by kernel_rfl
theorem newP : NewOf Tryz.prog 63 zP := fun x => by kernel_rfl
theorem newN : NewOf Tryz.prog 130 zN := fun x => by kernel_rfl
theorem newQ : NewOf Tryz.prog 132 zQ := fun x => by kernel_rfl
theorem arr_zE : Arr 5 zE := ⟨rfl, by kernel_rfl⟩
theorem arr_zP : Arr 20 zP := ⟨rfl, by kernel_rfl⟩
theorem arr_zN : Arr 16 zN := ⟨by kernel_rfl, by kernel_rfl⟩
theorem arr_zQ : Arr 64 zQ := ⟨by kernel_rfl, by kernel_rfl⟩
theorem qE {a b c d : Array Value} {X Y Z T : FK} (h1 : EA a X) (h2 : EA b Y) (h3 : EA c Z) (h4 : EA d T) : Arr 20 (quad a b c d) := quad_arr h1.arr h2.arr h3.arr h4.arr rfl
theorem qN {a b c d : Array Value} {X Y Z T : FK} (h1 : NA a X) (h2 : NA b Y) (h3 : NA c Z) (h4 : NA d T) : Arr 64 (quad a b c d) := quad_arr h1.arr h2.arr h3.arr h4.arr rfl
theorem ea_zE : EA zE 0 := ea_zero
theorem exE {a : Array Value} {X : FK} (h : EA a X) : ∃ X, EA a X := ⟨_, h⟩
theorem exN {a : Array Value} {X : FK} (h : NA a X) : ∃ X, NA a X := ⟨_, h⟩
theorem buildQ0 (a0 a1 a2 a3 a4 a5 a6 a7 a8 a9 a10 a11 a12 a13 a14 a15 b0 b1 b2 b3 b4 b5 b6 b7 b8 b9 b10 b11 b12 b13 b14 b15 c0 c1 c2 c3 c4 c5 c6 c7 c8 c9 c10 c11 c12 c13 c14 c15 d0 d1 d2 d3 d4 d5 d6 d7 d8 d9 d10 d11 d12 d13 d14 d15 : Value) : (Tryz.prog.built 132 [(0, .agg #[a0, a1, a2, a3, a4, a5, a6, a7, a8, a9, a10, a11, a12, a13, a14, a15]), (1, .agg #[b0, b1, b2, b3, b4, b5, b6, b7, b8, b9, b10, b11, b12, b13, b14, b15]), (2, .agg #[c0, c1, c2, c3, c4, c5, c6, c7, c8, c9, c10, c11, c12, c13, c14, c15]), (3, .agg #[d0, d1, d2, d3, d4, d5, d6, d7, d8, d9, d10, d11, d12, d13, d14, d15])]) = some (quad #[a0, a1, a2, a3, a4, a5, a6, a7, a8, a9, a10, a11, a12, a13, a14, a15] #[b0, b1, b2, b3, b4, b5, b6, b7, b8, b9, b10, b11, b12, b13, b14, b15] #[c0, c1, c2, c3, c4, c5, c6, c7, c8, c9, c10, c11, c12, c13, c14, c15] #[d0, d1, d2, d3, d4, d5, d6, d7, d8, d9, d10, d11, d12, d13, d14, d15]) := by kernel_rfl
theorem arr16 {a : Array Value} (h : a.size = 16) : ∃ a0 a1 a2 a3 a4 a5 a6 a7 a8 a9 a10 a11 a12 a13 a14 a15 : Value, a = #[a0, a1, a2, a3, a4, a5, a6, a7, a8, a9, a10, a11, a12, a13, a14, a15] := by
  obtain ⟨l⟩ := a
  match l, h with
  | [a0, a1, a2, a3, a4, a5, a6, a7, a8, a9, a10, a11, a12, a13, a14, a15], _ => exact ⟨a0, a1, a2, a3, a4, a5, a6, a7, a8, a9, a10, a11, a12, a13, a14, a15, rfl⟩
theorem buildQ : BuildOf Tryz.prog 132 (fun a => ∃ X, NA a X) := fun a b c d ha hb hc hd => by
  obtain ⟨_, ha⟩ := ha
  obtain ⟨_, hb⟩ := hb
  obtain ⟨_, hc⟩ := hc
  obtain ⟨_, hd⟩ := hd
  obtain ⟨a0, a1, a2, a3, a4, a5, a6, a7, a8, a9, a10, a11, a12, a13, a14, a15, rfl⟩ := arr16 ha.arr.size
  obtain ⟨b0, b1, b2, b3, b4, b5, b6, b7, b8, b9, b10, b11, b12, b13, b14, b15, rfl⟩ := arr16 hb.arr.size
  obtain ⟨c0, c1, c2, c3, c4, c5, c6, c7, c8, c9, c10, c11, c12, c13, c14, c15, rfl⟩ := arr16 hc.arr.size
  obtain ⟨d0, d1, d2, d3, d4, d5, d6, d7, d8, d9, d10, d11, d12, d13, d14, d15, rfl⟩ := arr16 hd.arr.size
  exact buildQ0 _ _ _ _ _ _ _ _ _ _ _ _ _ _ _ _ _ _ _ _ _ _ _ _ _ _ _ _ _ _ _ _ _ _ _ _ _ _ _ _ _ _ _ _ _ _ _ _ _ _ _ _ _ _ _ _ _ _ _ _ _ _ _ _
theorem buildP : BuildOf Tryz.prog 63 (fun a => ∃ X, EA a X) := fun a b c d ha hb hc hd => by
  obtain ⟨_, ha⟩ := ha
  obtain ⟨_, hb⟩ := hb
  obtain ⟨_, hc⟩ := hc
  obtain ⟨_, hd⟩ := hd
  obtain ⟨_, _, _, _, _, rfl, _, _⟩ := ha.ex
  obtain ⟨_, _, _, _, _, rfl, _, _⟩ := hb.ex
  obtain ⟨_, _, _, _, _, rfl, _, _⟩ := hc.ex
  obtain ⟨_, _, _, _, _, rfl, _, _⟩ := hd.ex
  kernel_rfl
def ResP (w : World) (A : Pj) (e : Ending) (w' : World) : Prop := ∃ a b c d, EA a A.X ∧ EA b A.Y ∧ EA c A.Z ∧ EA d A.T ∧ e = .returned (.agg (quad a b c d)) ∧ Below w.heap.size w w'
set_option maxRecDepth 100000 in
set_option maxHeartbeats 1600000 in
theorem at_any {a b : Array Value} {X Y : FK} (w : World) (hea : EA a X) (heb : EA b Y) : Calls Tryz.prog 77 #[.agg a, .agg b] w (ResP w ⟨X, Y, 1, X * Y⟩) := by
  have HS := hide (St.init w NoB)
  go_enter Tryz.func77, Tryz.ntmps77
  go_wp2_with (first | (refine wl_loadP rfl rfl rfl HS.out (by (repeat first | exact .head _ | apply List.Mem.tail)) (by first | exact rowE | exact rowP | exact rowN | exact rowQ) (by (first | exact .q0 (EA.arr ‹_›) | exact .q1 (EA.arr ‹_›) (EA.arr ‹_›) | exact .q2 (EA.arr ‹_›) (EA.arr ‹_›) (EA.arr ‹_›) | exact .q3 (EA.arr ‹_›) (EA.arr ‹_›) (EA.arr ‹_›) (EA.arr ‹_›) | exact .q0 (NA.arr ‹_›) | exact .q1 (NA.arr ‹_›) (NA.arr ‹_›) | exact .q2 (NA.arr ‹_›) (NA.arr ‹_›) (NA.arr ‹_›) | exact .q3 (NA.arr ‹_›) (NA.arr ‹_›) (NA.arr ‹_›) (NA.arr ‹_›) | exact .all (by (first | exact EA.arr ‹_› | exact NA.arr ‹_› | exact arr_zE | exact arr_zN | exact arr_zP | exact arr_zQ | exact PtN.arr ‹_› | exact PtV.arr ‹_› | exact QtN.arr ‹_› | exact qE ‹_› ‹_› ‹_› ‹_› | exact qN ‹_› ‹_› ‹_› ‹_›)))) ?_; (try simp only [Act.put, nq1, nq2, nq3, nq4, nq5, nq6])) | (refine wl_storeR rfl rfl rfl rfl HS.out (by first | exact rowE | exact rowP | exact rowN | exact rowQ) (by (repeat first | exact .head | apply Upd.tail)) (by (first | exact EA.arr ‹_› | exact NA.arr ‹_› | exact arr_zE | exact arr_zN | exact arr_zP | exact arr_zQ | exact PtN.arr ‹_› | exact PtV.arr ‹_› | exact QtN.arr ‹_› | exact qE ‹_› ‹_› ‹_› ‹_› | exact qN ‹_› ‹_› ‹_› ‹_›)) (by (first | exact EA.arr ‹_› | exact NA.arr ‹_› | exact arr_zE | exact arr_zN | exact arr_zP | exact arr_zQ | exact PtN.arr ‹_› | exact PtV.arr ‹_› | exact QtN.arr ‹_› | exact qE ‹_› ‹_› ‹_› ‹_› | exact qN ‹_› ‹_› ‹_› ‹_›)) ?_; intro wz hS9; have HS := hide hS9; clear hS9; (try simp only [Act.put, nq1, nq2, nq3, nq4, nq5, nq6])) | (refine wl_allocR rfl rfl HS.out (by first | exact newE | exact newP | exact newN | exact newQ) ?_; intro gz wz hS9; have HS := hide hS9; clear hS9; (try simp only [Act.put, nq1, nq2, nq3, nq4, nq5, nq6])) | (refine wl_boxR rfl rfl rfl HS.out ?_; intro gz wz hS9; have HS := hide hS9; clear hS9; (try simp only [Act.put, nq1, nq2, nq3, nq4, nq5, nq6])) | (refine wpT_loadP rfl rfl rfl rfl HS.out (by (repeat first | exact .head _ | apply List.Mem.tail)) (by first | exact rowE | exact rowP | exact rowN | exact rowQ) (by (first | exact .q0 (EA.arr ‹_›) | exact .q1 (EA.arr ‹_›) (EA.arr ‹_›) | exact .q2 (EA.arr ‹_›) (EA.arr ‹_›) (EA.arr ‹_›) | exact .q3 (EA.arr ‹_›) (EA.arr ‹_›) (EA.arr ‹_›) (EA.arr ‹_›) | exact .q0 (NA.arr ‹_›) | exact .q1 (NA.arr ‹_›) (NA.arr ‹_›) | exact .q2 (NA.arr ‹_›) (NA.arr ‹_›) (NA.arr ‹_›) | exact .q3 (NA.arr ‹_›) (NA.arr ‹_›) (NA.arr ‹_›) (NA.arr ‹_›) | exact .all (by (first | exact EA.arr ‹_› | exact NA.arr ‹_› | exact arr_zE | exact arr_zN | exact arr_zP | exact arr_zQ | exact PtN.arr ‹_› | exact PtV.arr ‹_› | exact QtN.arr ‹_› | exact qE ‹_› ‹_› ‹_› ‹_› | exact qN ‹_› ‹_› ‹_› ‹_›)))) ?_; (try simp only [Act.put, nq1, nq2, nq3, nq4, nq5, nq6])) | (refine wpT_pure rfl rfl (fun x => run_build4 rfl rfl rfl rfl rfl buildP (exE (by assumption)) (exE (by assumption)) (exE (by assumption)) (exE (by assumption)) x) ?_; (try simp only [Act.put, nq1, nq2, nq3, nq4, nq5, nq6])) | (refine wpT_pure rfl rfl (fun x => run_build4 rfl rfl rfl rfl rfl buildQ (exN (by assumption)) (exN (by assumption)) (exN (by assumption)) (exN (by assumption)) x) ?_; (try simp only [Act.put, nq1, nq2, nq3, nq4, nq5, nq6])) | (refine wpT_late rfl rfl ?_; intro K hK; refine wp_storeR rfl rfl rfl HS.out (by first | exact rowE | exact rowP | exact rowN | exact rowQ) (by (repeat first | exact .head | apply Upd.tail)) (by (first | exact EA.arr ‹_› | exact NA.arr ‹_› | exact arr_zE | exact arr_zN | exact arr_zP | exact arr_zQ | exact PtN.arr ‹_› | exact PtV.arr ‹_› | exact QtN.arr ‹_› | exact qE ‹_› ‹_› ‹_› ‹_› | exact qN ‹_› ‹_› ‹_› ‹_›)) (by (first | exact EA.arr ‹_› | exact NA.arr ‹_› | exact arr_zE | exact arr_zN | exact arr_zP | exact arr_zQ | exact PtN.arr ‹_› | exact PtV.arr ‹_› | exact QtN.arr ‹_› | exact qE ‹_› ‹_› ‹_› ‹_› | exact qN ‹_› ‹_› ‹_› ‹_›)) ?_; intro wz hS9; have HS := hide hS9; clear hS9) | (refine wpT_any rfl rfl ?_; intro K hK; refine wp_storeR rfl rfl rfl HS.out (by first | exact rowE | exact rowP | exact rowN | exact rowQ) (by (repeat first | exact .head | apply Upd.tail)) (by (first | exact EA.arr ‹_› | exact NA.arr ‹_› | exact arr_zE | exact arr_zN | exact arr_zP | exact arr_zQ | exact PtN.arr ‹_› | exact PtV.arr ‹_› | exact QtN.arr ‹_› | exact qE ‹_› ‹_› ‹_› ‹_› | exact qN ‹_› ‹_› ‹_› ‹_›)) (by (first | exact EA.arr ‹_› | exact NA.arr ‹_› | exact arr_zE | exact arr_zN | exact arr_zP | exact arr_zQ | exact PtN.arr ‹_› | exact PtV.arr ‹_› | exact QtN.arr ‹_› | exact qE ‹_› ‹_› ‹_› ‹_› | exact qN ‹_› ‹_› ‹_› ‹_›)) ?_; intro wz hS9; have HS := hide hS9; clear hS9) | (refine wpX_loadP rfl rfl rfl rfl HS.out (by (repeat first | exact .head _ | apply List.Mem.tail)) (by first | exact rowE | exact rowP | exact rowN | exact rowQ) (by (first | exact .q0 (EA.arr ‹_›) | exact .q1 (EA.arr ‹_›) (EA.arr ‹_›) | exact .q2 (EA.arr ‹_›) (EA.arr ‹_›) (EA.arr ‹_›) | exact .q3 (EA.arr ‹_›) (EA.arr ‹_›) (EA.arr ‹_›) (EA.arr ‹_›) | exact .q0 (NA.arr ‹_›) | exact .q1 (NA.arr ‹_›) (NA.arr ‹_›) | exact .q2 (NA.arr ‹_›) (NA.arr ‹_›) (NA.arr ‹_›) | exact .q3 (NA.arr ‹_›) (NA.arr ‹_›) (NA.arr ‹_›) (NA.arr ‹_›) | exact .all (by (first | exact EA.arr ‹_› | exact NA.arr ‹_› | exact arr_zE | exact arr_zN | exact arr_zP | exact arr_zQ | exact PtN.arr ‹_› | exact PtV.arr ‹_› | exact QtN.arr ‹_› | exact qE ‹_› ‹_› ‹_› ‹_› | exact qN ‹_› ‹_› ‹_› ‹_›)))) ?_; (try simp only [Act.put, nq1, nq2, nq3, nq4, nq5, nq6])) | (refine wpX_pure rfl rfl (fun x => run_build4 rfl rfl rfl rfl rfl buildP (exE (by assumption)) (exE (by assumption)) (exE (by assumption)) (exE (by assumption)) x) ?_; (try simp only [Act.put, nq1, nq2, nq3, nq4, nq5, nq6])) | (refine wpX_pure rfl rfl (fun x => run_build4 rfl rfl rfl rfl rfl buildQ (exN (by assumption)) (exN (by assumption)) (exN (by assumption)) (exN (by assumption)) x) ?_; (try simp only [Act.put, nq1, nq2, nq3, nq4, nq5, nq6])) | (refine wpX_nil ?_; intro G xz hx0 hx hF; have hS9 := HS.out.floats hx0 hF _ (by decide) (fun _ h => h); simp only [List.map_cons, List.map_nil, List.cons_append, List.nil_append] at hS9; have HS := hide hS9; clear hS9 hF hx0 hx; simp only [putsE, List.foldl_cons, List.foldl_nil]; (try simp only [Act.put, nq1, nq2, nq3, nq4, nq5, nq6])) | (refine wpX_pure (v := ?_) rfl rfl ?_ ?_; rotate_left; (intro wx; go_simp; try go_bits) <;> (with_reducible rfl); (try simp only [Act.put, nq1, nq2, nq3, nq4, nq5, nq6])) | (refine wpX_call rfl rfl ?_; intro xc hxc K hK) | (refine wpX_skip rfl rfl ?_; (try simp only [Act.put, nq1, nq2, nq3, nq4, nq5, nq6])))
  have HS := hide HS.out.drew
  refine wp_region_T [(0, 0), (1, 0), (3, 0), (4, 0), (2, 2), (5, 2), (6, 1), (7, 3)] (by kernel_rfl) (by kernel_rfl) (fun _ _ _ _ h => h) ?_
  go_wp2_with (first | (go_at_call 89; (with_reducible refine (small1A _).mono ?_); rintro e wy ⟨z, hz, rfl, hb⟩; try have HS := hide (HS.out.call hb)) | (go_at_call 83; (with_reducible refine (mulA _ (by assumption) (by assumption)).mono ?_); rintro e wy ⟨z, hz, rfl, hb⟩; try have HS := hide (HS.out.call hb)) | (go_at_call 90; (with_reducible refine (addA _ (by assumption) (by assumption)).mono ?_); rintro e wy ⟨z, hz, rfl, hb⟩; try have HS := hide (HS.out.call hb)) | (go_at_call 88; (with_reducible refine (subA _ (by assumption) (by assumption)).mono ?_); rintro e wy ⟨z, hz, rfl, hb⟩; try have HS := hide (HS.out.call hb)) | (go_at_call 91; (with_reducible refine (negA _ (by assumption)).mono ?_); rintro e wy ⟨z, hz, rfl, hb⟩; try have HS := hide (HS.out.call hb)) | (go_at_call 82; (with_reducible refine (invA _ (by assumption)).mono ?_); rintro e wy ⟨z, hz, rfl, hb⟩; try have HS := hide (HS.out.call hb)) | (refine wl_loadP rfl rfl rfl HS.out (by (repeat first | exact .head _ | apply List.Mem.tail)) (by first | exact rowE | exact rowP | exact rowN | exact rowQ) (by (first | exact .q0 (EA.arr ‹_›) | exact .q1 (EA.arr ‹_›) (EA.arr ‹_›) | exact .q2 (EA.arr ‹_›) (EA.arr ‹_›) (EA.arr ‹_›) | exact .q3 (EA.arr ‹_›) (EA.arr ‹_›) (EA.arr ‹_›) (EA.arr ‹_›) | exact .q0 (NA.arr ‹_›) | exact .q1 (NA.arr ‹_›) (NA.arr ‹_›) | exact .q2 (NA.arr ‹_›) (NA.arr ‹_›) (NA.arr ‹_›) | exact .q3 (NA.arr ‹_›) (NA.arr ‹_›) (NA.arr ‹_›) (NA.arr ‹_›) | exact .all (by (first | exact EA.arr ‹_› | exact NA.arr ‹_› | exact arr_zE | exact arr_zN | exact arr_zP | exact arr_zQ | exact PtN.arr ‹_› | exact PtV.arr ‹_› | exact QtN.arr ‹_› | exact qE ‹_› ‹_› ‹_› ‹_› | exact qN ‹_› ‹_› ‹_› ‹_›)))) ?_; (try simp only [Act.put, nq1, nq2, nq3, nq4, nq5, nq6])) | (refine wl_storeR rfl rfl rfl rfl HS.out (by first | exact rowE | exact rowP | exact rowN | exact rowQ) (by (repeat first | exact .head | apply Upd.tail)) (by (first | exact EA.arr ‹_› | exact NA.arr ‹_› | exact arr_zE | exact arr_zN | exact arr_zP | exact arr_zQ | exact PtN.arr ‹_› | exact PtV.arr ‹_› | exact QtN.arr ‹_› | exact qE ‹_› ‹_› ‹_› ‹_› | exact qN ‹_› ‹_› ‹_› ‹_›)) (by (first | exact EA.arr ‹_› | exact NA.arr ‹_› | exact arr_zE | exact arr_zN | exact arr_zP | exact arr_zQ | exact PtN.arr ‹_› | exact PtV.arr ‹_› | exact QtN.arr ‹_› | exact qE ‹_› ‹_› ‹_› ‹_› | exact qN ‹_› ‹_› ‹_› ‹_›)) ?_; intro wz hS9; have HS := hide hS9; clear hS9; (try simp only [Act.put, nq1, nq2, nq3, nq4, nq5, nq6])) | (refine wl_allocR rfl rfl HS.out (by first | exact newE | exact newP | exact newN | exact newQ) ?_; intro gz wz hS9; have HS := hide hS9; clear hS9; (try simp only [Act.put, nq1, nq2, nq3, nq4, nq5, nq6])) | (refine wl_boxR rfl rfl rfl HS.out ?_; intro gz wz hS9; have HS := hide hS9; clear hS9; (try simp only [Act.put, nq1, nq2, nq3, nq4, nq5, nq6])) | (refine wpT_loadP rfl rfl rfl rfl HS.out (by (repeat first | exact .head _ | apply List.Mem.tail)) (by first | exact rowE | exact rowP | exact rowN | exact rowQ) (by (first | exact .q0 (EA.arr ‹_›) | exact .q1 (EA.arr ‹_›) (EA.arr ‹_›) | exact .q2 (EA.arr ‹_›) (EA.arr ‹_›) (EA.arr ‹_›) | exact .q3 (EA.arr ‹_›) (EA.arr ‹_›) (EA.arr ‹_›) (EA.arr ‹_›) | exact .q0 (NA.arr ‹_›) | exact .q1 (NA.arr ‹_›) (NA.arr ‹_›) | exact .q2 (NA.arr ‹_›) (NA.arr ‹_›) (NA.arr ‹_›) | exact .q3 (NA.arr ‹_›) (NA.arr ‹_›) (NA.arr ‹_›) (NA.arr ‹_›) | exact .all (by (first | exact EA.arr ‹_› | exact NA.arr ‹_› | exact arr_zE | exact arr_zN | exact arr_zP | exact arr_zQ | exact PtN.arr ‹_› | exact PtV.arr ‹_› | exact QtN.arr ‹_› | exact qE ‹_› ‹_› ‹_› ‹_› | exact qN ‹_› ‹_› ‹_› ‹_›)))) ?_; (try simp only [Act.put, nq1, nq2, nq3, nq4, nq5, nq6])) | (refine wpT_pure rfl rfl (fun x => run_build4 rfl rfl rfl rfl rfl buildP (exE (by assumption)) (exE (by assumption)) (exE (by assumption)) (exE (by assumption)) x) ?_; (try simp only [Act.put, nq1, nq2, nq3, nq4, nq5, nq6])) | (refine wpT_pure rfl rfl (fun x => run_build4 rfl rfl rfl rfl rfl buildQ (exN (by assumption)) (exN (by assumption)) (exN (by assumption)) (exN (by assumption)) x) ?_; (try simp only [Act.put, nq1, nq2, nq3, nq4, nq5, nq6])) | (refine wpT_late rfl rfl ?_; intro K hK; refine wp_storeR rfl rfl rfl HS.out (by first | exact rowE | exact rowP | exact rowN | exact rowQ) (by (repeat first | exact .head | apply Upd.tail)) (by (first | exact EA.arr ‹_› | exact NA.arr ‹_› | exact arr_zE | exact arr_zN | exact arr_zP | exact arr_zQ | exact PtN.arr ‹_› | exact PtV.arr ‹_› | exact QtN.arr ‹_› | exact qE ‹_› ‹_› ‹_› ‹_› | exact qN ‹_› ‹_› ‹_› ‹_›)) (by (first | exact EA.arr ‹_› | exact NA.arr ‹_› | exact arr_zE | exact arr_zN | exact arr_zP | exact arr_zQ | exact PtN.arr ‹_› | exact PtV.arr ‹_› | exact QtN.arr ‹_› | exact qE ‹_› ‹_› ‹_› ‹_› | exact qN ‹_› ‹_› ‹_› ‹_›)) ?_; intro wz hS9; have HS := hide hS9; clear hS9) | (refine wpT_any rfl rfl ?_; intro K hK; refine wp_storeR rfl rfl rfl HS.out (by first | exact rowE | exact rowP | exact rowN | exact rowQ) (by (repeat first | exact .head | apply Upd.tail)) (by (first | exact EA.arr ‹_› | exact NA.arr ‹_› | exact arr_zE | exact arr_zN | exact arr_zP | exact arr_zQ | exact PtN.arr ‹_› | exact PtV.arr ‹_› | exact QtN.arr ‹_› | exact qE ‹_› ‹_› ‹_› ‹_› | exact qN ‹_› ‹_› ‹_› ‹_›)) (by (first | exact EA.arr ‹_› | exact NA.arr ‹_› | exact arr_zE | exact arr_zN | exact arr_zP | exact arr_zQ | exact PtN.arr ‹_› | exact PtV.arr ‹_› | exact QtN.arr ‹_› | exact qE ‹_› ‹_› ‹_› ‹_› | exact qN ‹_› ‹_› ‹_› ‹_›)) ?_; intro wz hS9; have HS := hide hS9; clear hS9) | (refine wpX_loadP rfl rfl rfl rfl HS.out (by (repeat first | exact .head _ | apply List.Mem.tail)) (by first | exact rowE | exact rowP | exact rowN | exact rowQ) (by (first | exact .q0 (EA.arr ‹_›) | exact .q1 (EA.arr ‹_›) (EA.arr ‹_›) | exact .q2 (EA.arr ‹_›) (EA.arr ‹_›) (EA.arr ‹_›) | exact .q3 (EA.arr ‹_›) (EA.arr ‹_›) (EA.arr ‹_›) (EA.arr ‹_›) | exact .q0 (NA.arr ‹_›) | exact .q1 (NA.arr ‹_›) (NA.arr ‹_›) | exact .q2 (NA.arr ‹_›) (NA.arr ‹_›) (NA.arr ‹_›) | exact .q3 (NA.arr ‹_›) (NA.arr ‹_›) (NA.arr ‹_›) (NA.arr ‹_›) | exact .all (by (first | exact EA.arr ‹_› | exact NA.arr ‹_› | exact arr_zE | exact arr_zN | exact arr_zP | exact arr_zQ | exact PtN.arr ‹_› | exact PtV.arr ‹_› | exact QtN.arr ‹_› | exact qE ‹_› ‹_› ‹_› ‹_› | exact qN ‹_› ‹_› ‹_› ‹_›)))) ?_; (try simp only [Act.put, nq1, nq2, nq3, nq4, nq5, nq6])) | (refine wpX_pure rfl rfl (fun x => run_build4 rfl rfl rfl rfl rfl buildP (exE (by assumption)) (exE (by assumption)) (exE (by assumption)) (exE (by assumption)) x) ?_; (try simp only [Act.put, nq1, nq2, nq3, nq4, nq5, nq6])) | (refine wpX_pure rfl rfl (fun x => run_build4 rfl rfl rfl rfl rfl buildQ (exN (by assumption)) (exN (by assumption)) (exN (by assumption)) (exN (by assumption)) x) ?_; (try simp only [Act.put, nq1, nq2, nq3, nq4, nq5, nq6])) | (refine wpX_nil ?_; intro G xz hx0 hx hF; have hS9 := HS.out.floats hx0 hF _ (by decide) (fun _ h => h); simp only [List.map_cons, List.map_nil, List.cons_append, List.nil_append] at hS9; have HS := hide hS9; clear hS9 hF hx0 hx; simp only [putsE, List.foldl_cons, List.foldl_nil]; (try simp only [Act.put, nq1, nq2, nq3, nq4, nq5, nq6])) | (refine wpX_pure (v := ?_) rfl rfl ?_ ?_; rotate_left; (intro wx; go_simp; try go_bits) <;> (with_reducible rfl); (try simp only [Act.put, nq1, nq2, nq3, nq4, nq5, nq6])) | (refine wpX_call rfl rfl ?_; intro xc hxc K hK) | (refine wpX_skip rfl rfl ?_; (try simp only [Act.put, nq1, nq2, nq3, nq4, nq5, nq6])) | (refine wpT_nil ?_)   | ((with_reducible refine fromT_refl ?_); (try simp only [Act.put, nq1, nq2, nq3, nq4, nq5, nq6]))   | ((with_reducible refine fromT_mk (by assumption) ?_); (try simp only [Act.put, nq1, nq2, nq3, nq4, nq5, nq6]))   | (refine wpT_pure (v := ?_) rfl rfl ?_ ?_; rotate_left; (intro wx; go_simp; try go_bits) <;> (with_reducible rfl); (try simp only [Act.put, nq1, nq2, nq3, nq4, nq5, nq6]))   | (refine wpT_load (v := ?_) rfl rfl rfl ?_ ?_; rotate_left; (go_simp; try go_bits) <;> (with_reducible rfl); (try simp only [Act.put, nq1, nq2, nq3, nq4, nq5, nq6]))   | (refine wpT_read (v := ?_) rfl rfl ?_ ?_; rotate_left; (intro wx hx; go_simp; try go_bits) <;> (with_reducible rfl); (try simp only [Act.put, nq1, nq2, nq3, nq4, nq5, nq6]))   | (refine wpT_call rfl rfl ?_; intro K hK)   | (refine wpT_late rfl rfl ?_; intro K hK)   | (refine wpT_any rfl rfl ?_; intro K hK)   | (refine wpT_skip rfl rfl ?_; (try simp only [Act.put, nq1, nq2, nq3, nq4, nq5, nq6])))
  refine bodyPost_ret (results_cell_row rfl _ _ _ _ _ _ _ rfl (HS.out.heapM (by (repeat first | exact .head _ | apply List.Mem.tail))) Tryz.underlying63 rfl (by first | (rw [(EA.arr ‹_›).size]; kernel_rfl) | (rw [(NA.arr ‹_›).size]; kernel_rfl) | (rw [(qE ‹_› ‹_› ‹_› ‹_›).size]; kernel_rfl) | (rw [(qN ‹_› ‹_› ‹_› ‹_›).size]; kernel_rfl) | (rw [(PtN.arr ‹_›).size]; kernel_rfl) | (rw [(PtV.arr ‹_›).size]; kernel_rfl) | (rw [(QtN.arr ‹_›).size]; kernel_rfl))) rfl ?_
  exact ⟨_, _, _, _, hea, heb, by assumption, by assumption, rfl, HS.out.below⟩
end Go.Proofs.YtnohmgpmmhlloaaGreatDoor

namespace Go.Proofs.YtnohmgpmmhlloaaGreatDoor
open Go.RowKit

def packL (P : Ed) : List UInt8 := leB 32 (packN P)
theorem packL_len (P : Ed) : (packL P).length = 32 := leB_len 32 _
theorem packN_lt (P : Ed) : packN P < 256 ^ 32 := by
  unfold packN
  have h1 : P.y.val < Pq := P.y.isLt
  have h2 := pq_255
  have h3 : (256 : Nat) ^ 32 = 2 ^ 255 + 2 ^ 255 := by decide
  rw [h3]
  generalize (2 : Nat) ^ 255 = B at *
  split <;> omega
theorem top_bit (y : Nat) (hy : y < 2 ^ 255) : ∃ (l : List UInt8) (r : Nat), l.length = 31 ∧ r < 128 ∧ leB 32 y = l ++ [UInt8.ofNat r] ∧ leB 32 (y + 2 ^ 255) = l ++ [UInt8.ofNat (r + 128)] := by
  obtain ⟨x, hx⟩ : ∃ x, x = y % 256 ^ 31 := ⟨_, rfl⟩
  obtain ⟨r, hr⟩ : ∃ r, r = y / 256 ^ 31 := ⟨_, rfl⟩
  have hB : (2 : Nat) ^ 255 = 256 ^ 31 * 128 := by decide
  have hx2 : x < 256 ^ 31 := by rw [hx]; exact Nat.mod_lt _ (by decide)
  have e : y = x + 256 ^ 31 * r := by rw [hx, hr, Nat.mod_add_div]
  have hr2 : r < 128 := by
    rw [hr]
    refine Nat.div_lt_of_lt_mul ?_
    rw [← hB]
    exact hy
  refine ⟨leB 31 x, r, leB_len 31 x, hr2, ?_, ?_⟩
  · rw [e]
    have h := leB_add 31 1 x r hx2
    rw [show (31 + 1 : Nat) = 32 from rfl] at h
    rw [h]
    show _ ++ [UInt8.ofNat (r % 256)] = _
    rw [Nat.mod_eq_of_lt (by omega)]
  · rw [e, hB, Nat.add_assoc, ← Nat.mul_add]
    have h := leB_add 31 1 x (r + 128) hx2
    rw [show (31 + 1 : Nat) = 32 from rfl] at h
    rw [h]
    show _ ++ [UInt8.ofNat ((r + 128) % 256)] = _
    rw [Nat.mod_eq_of_lt (by omega)]
def lowL (b : List UInt8) : List UInt8 := b.set 31 (UInt8.ofNat ((b.getD 31 0).toNat % 128))
def topB (b : List UInt8) : Bool := decide (128 ≤ (b.getD 31 0).toNat)
theorem lowL_len (b : List UInt8) : (lowL b).length = b.length := by unfold lowL; rw [List.length_set]
theorem bval_low {b : List UInt8} (h : b.length = 32) : bval b = bval (lowL b) + (if topB b then 2 ^ 255 else 0) ∧ bval (lowL b) < 2 ^ 255 := by
  obtain ⟨c, hc⟩ : ∃ c, b[31]? = some c := ⟨b[31], List.getElem?_eq_getElem _⟩
  have hg : b.getD 31 0 = c := by rw [List.getD_eq_getElem?_getD, hc]; rfl
  have hlow : (lowL b)[31]? = some (UInt8.ofNat (c.toNat % 128)) := by unfold lowL; rw [hg, List.getElem?_set_self (by omega)]
  have e1 := bval_take hc
  have e2 := bval_take hlow
  have t1 : b.take (31 + 1) = b := List.take_of_length_le (by omega)
  have t2 : (lowL b).take (31 + 1) = lowL b := List.take_of_length_le (by rw [lowL_len]; omega)
  have t3 : (lowL b).take 31 = b.take 31 := by unfold lowL; rw [List.take_set_of_le (Nat.le_refl 31)]
  rw [t1] at e1
  rw [t2, t3] at e2
  have hb := bval_lt (b.take 31)
  rw [List.length_take, Nat.min_eq_left (by omega)] at hb
  have hm : (UInt8.ofNat (c.toNat % 128)).toNat = c.toNat % 128 := by rw [UInt8.toNat_ofNat', Nat.mod_eq_of_lt (by omega)]
  rw [hm] at e2
  have hB : (2 : Nat) ^ 255 = 256 ^ 31 * 128 := by decide
  have hc2 : c.toNat < 256 := UInt8.toNat_lt c
  have hd := Nat.div_add_mod c.toNat 128
  unfold topB
  rw [hg, e1, e2, hB]
  generalize (256 : Nat) ^ 31 = W at *
  generalize bval (b.take 31) = V at *
  by_cases ht : 128 ≤ c.toNat
  · rw [decide_eq_true ht, if_pos rfl]
    have h1 : c.toNat = c.toNat % 128 + 128 := by omega
    refine ⟨?_, ?_⟩
    · conv => lhs; rw [h1]
      rw [Nat.add_mul, Nat.mul_comm 128 W]
      omega
    · have : c.toNat % 128 ≤ 127 := by omega
      have := Nat.mul_le_mul_right W this
      omega
  · rw [decide_eq_false ht, if_neg Bool.false_ne_true]
    have h1 : c.toNat % 128 = c.toNat := by omega
    rw [h1]
    refine ⟨by omega, ?_⟩
    have : c.toNat ≤ 127 := by omega
    have := Nat.mul_le_mul_right W this
    omega
theorem fbytes_low {b : List UInt8} (h : b.length = 32) : (fbytes (lowL b)).val = bval (lowL b) % Pq := by
  show bval (fullL (lowL b)) % Pq = _
  unfold fullL
  rw [List.take_append_of_le_length (by rw [lowL_len]; omega), List.take_of_length_le (by rw [lowL_len]; omega)]
noncomputable def fromL (b : List UInt8) : Option Ed :=
  if b.length = 32 then match unp (fbytes (lowL b)) (topB b) with
    | none => none
    | some P => if packL P = b then some P else none
  else none
theorem from_pack (P : Ed) : fromL (packL P) = some P := by
  have hl := packL_len P
  have h1 : P.y.val < Pq := P.y.isLt
  have hp := pq_255
  obtain ⟨e1, e2⟩ := bval_low hl
  have hb : bval (packL P) = packN P := by unfold packL; rw [bval_leB, Nat.mod_eq_of_lt (packN_lt P)]
  have hsp : bval (lowL (packL P)) = P.y.val ∧ topB (packL P) = decide (P.x.val % 2 = 1) := by
    rw [hb] at e1
    unfold packN at e1
    generalize bval (lowL (packL P)) = L at *
    generalize (2 : Nat) ^ 255 = B at *
    cases ht : topB (packL P) with
    | true =>
      rw [ht, if_pos rfl] at e1
      split at e1
      · rename_i h; exact ⟨by omega, (decide_eq_true h).symm⟩
      · omega
    | false =>
      rw [ht, if_neg Bool.false_ne_true] at e1
      split at e1
      · omega
      · rename_i h; exact ⟨by omega, (decide_eq_false h).symm⟩
  have hy : fbytes (lowL (packL P)) = P.y := Fin.ext (by rw [fbytes_low hl, hsp.1, Nat.mod_eq_of_lt h1])
  unfold fromL
  rw [if_pos hl, hy, hsp.2, unp_pack]
  show (if packL P = packL P then some P else none) = _
  rw [if_pos rfl]
end Go.Proofs.YtnohmgpmmhlloaaGreatDoor

namespace Go.Proofs.YtnohmgpmmhlloaaGreatDoor
open Go.RowKit
set_option linter.unusedSimpArgs false

set_option maxRecDepth 100000 in
set_option maxHeartbeats 800000 in
theorem squareA {a : Array Value} {X : FK} (w : World) (ha : EA a X) : Calls Tryz.prog 127 #[.agg a] w (ResE w (X * X)) := by
  have HS := hide (St.init w NoB)
  go_enter Tryz.func127, Tryz.ntmps127
  go_wp2_with (first | (go_at_call 83; (with_reducible refine (mulA _ (by assumption) (by assumption)).mono ?_); rintro e wy ⟨z, hz, rfl, hb⟩; try have HS := hide (HS.out.call hb)) | (go_at_call 90; (with_reducible refine (addA _ (by assumption) (by assumption)).mono ?_); rintro e wy ⟨z, hz, rfl, hb⟩; try have HS := hide (HS.out.call hb)) | (go_at_call 88; (with_reducible refine (subA _ (by assumption) (by assumption)).mono ?_); rintro e wy ⟨z, hz, rfl, hb⟩; try have HS := hide (HS.out.call hb)) | (go_at_call 91; (with_reducible refine (negA _ (by assumption)).mono ?_); rintro e wy ⟨z, hz, rfl, hb⟩; try have HS := hide (HS.out.call hb)) | (go_at_call 82; (with_reducible refine (invA _ (by assumption)).mono ?_); rintro e wy ⟨z, hz, rfl, hb⟩; try have HS := hide (HS.out.call hb)) | (refine wl_loadP rfl rfl rfl HS.out (by (repeat first | exact .head _ | apply List.Mem.tail)) (by first | exact rowE | exact rowP | exact rowN | exact rowQ) (by (first | exact .q0 (EA.arr ‹_›) | exact .q1 (EA.arr ‹_›) (EA.arr ‹_›) | exact .q2 (EA.arr ‹_›) (EA.arr ‹_›) (EA.arr ‹_›) | exact .q3 (EA.arr ‹_›) (EA.arr ‹_›) (EA.arr ‹_›) (EA.arr ‹_›) | exact .q0 (NA.arr ‹_›) | exact .q1 (NA.arr ‹_›) (NA.arr ‹_›) | exact .q2 (NA.arr ‹_›) (NA.arr ‹_›) (NA.arr ‹_›) | exact .q3 (NA.arr ‹_›) (NA.arr ‹_›) (NA.arr ‹_›) (NA.arr ‹_›) | exact .all (by (first | exact EA.arr ‹_› | exact NA.arr ‹_› | exact arr_zE | exact arr_zN | exact arr_zP | exact arr_zQ | exact PtN.arr ‹_› | exact PtV.arr ‹_› | exact QtN.arr ‹_› | exact qE ‹_› ‹_› ‹_› ‹_› | exact qN ‹_› ‹_› ‹_› ‹_›)))) ?_; (try simp only [Act.put, nq1, nq2, nq3, nq4, nq5, nq6])) | (refine wl_storeR rfl rfl rfl rfl HS.out (by first | exact rowE | exact rowP | exact rowN | exact rowQ) (by (repeat first | exact .head | apply Upd.tail)) (by (first | exact EA.arr ‹_› | exact NA.arr ‹_› | exact arr_zE | exact arr_zN | exact arr_zP | exact arr_zQ | exact PtN.arr ‹_› | exact PtV.arr ‹_› | exact QtN.arr ‹_› | exact qE ‹_› ‹_› ‹_› ‹_› | exact qN ‹_› ‹_› ‹_› ‹_›)) (by (first | exact EA.arr ‹_› | exact NA.arr ‹_› | exact arr_zE | exact arr_zN | exact arr_zP | exact arr_zQ | exact PtN.arr ‹_› | exact PtV.arr ‹_› | exact QtN.arr ‹_› | exact qE ‹_› ‹_› ‹_› ‹_› | exact qN ‹_› ‹_› ‹_› ‹_›)) ?_; intro wz hS9; have HS := hide hS9; clear hS9; (try simp only [Act.put, nq1, nq2, nq3, nq4, nq5, nq6])) | (refine wl_allocR rfl rfl HS.out (by first | exact newE | exact newP | exact newN | exact newQ) ?_; intro gz wz hS9; have HS := hide hS9; clear hS9; (try simp only [Act.put, nq1, nq2, nq3, nq4, nq5, nq6])) | (refine wl_boxR rfl rfl rfl HS.out ?_; intro gz wz hS9; have HS := hide hS9; clear hS9; (try simp only [Act.put, nq1, nq2, nq3, nq4, nq5, nq6])))
  refine bodyPost_ret (results_cell_row rfl _ _ _ _ _ _ _ rfl (HS.out.heapM (by (repeat first | exact .head _ | apply List.Mem.tail))) Tryz.underlying61 rfl (by first | (rw [(EA.arr ‹_›).size]; kernel_rfl) | (rw [(NA.arr ‹_›).size]; kernel_rfl) | (rw [(qE ‹_› ‹_› ‹_› ‹_›).size]; kernel_rfl) | (rw [(qN ‹_› ‹_› ‹_› ‹_›).size]; kernel_rfl) | (rw [(PtN.arr ‹_›).size]; kernel_rfl) | (rw [(PtV.arr ‹_›).size]; kernel_rfl) | (rw [(QtN.arr ‹_›).size]; kernel_rfl))) rfl ?_
  exact ⟨_, by assumption, rfl, HS.out.below⟩
theorem en36_rt (args : Array Value) (w : World) : (callFunc 83 args).run Tryz.prog w = .ok (.enter 83 args) w := by kernel_rfl
theorem en45_rt (args : Array Value) (w : World) : (callFunc 91 args).run Tryz.prog w = .ok (.enter 91 args) w := by kernel_rfl
theorem en48_rt (args : Array Value) (w : World) : (callFunc 89 args).run Tryz.prog w = .ok (.enter 89 args) w := by kernel_rfl
theorem en61_rt (args : Array Value) (w : World) : (callFunc 122 args).run Tryz.prog w = .ok (.enter 122 args) w := by kernel_rfl
theorem en67_rt (args : Array Value) (w : World) : (callFunc 127 args).run Tryz.prog w = .ok (.enter 127 args) w := by kernel_rfl
theorem en68_rt (args : Array Value) (w : World) : (callFunc 128 args).run Tryz.prog w = .ok (.enter 128 args) w := by kernel_rfl
set_option maxRecDepth 100000 in
set_option maxHeartbeats 6400000 in
theorem root_any {u v : Array Value} {U V : FK} (w : World) (hu : EA u U) (hv : EA v V) :
    Calls Tryz.prog 87 #[.agg u, .agg v] w fun e w' => ∃ x, EA x ((rtF U V).getD 0) ∧ e = .returned (.tuple #[.agg x, .bool (rtF U V).isSome]) ∧ Below w.heap.size w w' := by
  have HS := hide (St.init w NoB)
  go_enter Tryz.func87, Tryz.ntmps87
  go_wp2_with (first | (refine wl_loadP rfl rfl rfl HS.out (by (repeat first | exact .head _ | apply List.Mem.tail)) (by first | exact rowE | exact rowP | exact rowN | exact rowQ) (by (first | exact .q0 (EA.arr ‹_›) | exact .q1 (EA.arr ‹_›) (EA.arr ‹_›) | exact .q2 (EA.arr ‹_›) (EA.arr ‹_›) (EA.arr ‹_›) | exact .q3 (EA.arr ‹_›) (EA.arr ‹_›) (EA.arr ‹_›) (EA.arr ‹_›) | exact .q0 (NA.arr ‹_›) | exact .q1 (NA.arr ‹_›) (NA.arr ‹_›) | exact .q2 (NA.arr ‹_›) (NA.arr ‹_›) (NA.arr ‹_›) | exact .q3 (NA.arr ‹_›) (NA.arr ‹_›) (NA.arr ‹_›) (NA.arr ‹_›) | exact .all (by (first | exact EA.arr ‹_› | exact NA.arr ‹_› | exact arr_zE | exact arr_zN | exact arr_zP | exact arr_zQ | exact PtN.arr ‹_› | exact PtV.arr ‹_› | exact QtN.arr ‹_› | exact qE ‹_› ‹_› ‹_› ‹_› | exact qN ‹_› ‹_› ‹_› ‹_›)))) ?_; (try simp only [Act.put, nq1, nq2, nq3, nq4, nq5, nq6])) | (refine wl_storeR rfl rfl rfl rfl HS.out (by first | exact rowE | exact rowP | exact rowN | exact rowQ) (by (repeat first | exact .head | apply Upd.tail)) (by (first | exact EA.arr ‹_› | exact NA.arr ‹_› | exact arr_zE | exact arr_zN | exact arr_zP | exact arr_zQ | exact PtN.arr ‹_› | exact PtV.arr ‹_› | exact QtN.arr ‹_› | exact qE ‹_› ‹_› ‹_› ‹_› | exact qN ‹_› ‹_› ‹_› ‹_›)) (by (first | exact EA.arr ‹_› | exact NA.arr ‹_› | exact arr_zE | exact arr_zN | exact arr_zP | exact arr_zQ | exact PtN.arr ‹_› | exact PtV.arr ‹_› | exact QtN.arr ‹_› | exact qE ‹_› ‹_› ‹_› ‹_› | exact qN ‹_› ‹_› ‹_› ‹_›)) ?_; intro wz hS9; have HS := hide hS9; clear hS9; (try simp only [Act.put, nq1, nq2, nq3, nq4, nq5, nq6])) | (refine wl_allocR rfl rfl HS.out (by first | exact newE | exact newP | exact newN | exact newQ) ?_; intro gz wz hS9; have HS := hide hS9; clear hS9; (try simp only [Act.put, nq1, nq2, nq3, nq4, nq5, nq6])) | (refine wl_boxR rfl rfl rfl HS.out ?_; intro gz wz hS9; have HS := hide hS9; clear hS9; (try simp only [Act.put, nq1, nq2, nq3, nq4, nq5, nq6])))
  have HS := hide HS.out.drew
  refine wp_region_XE [(4, 6)] [(0, 0), (2, 0), (1, 2), (3, 2)] (.op 5 2 (.nil)) zE 61 (by kernel_rfl) (by kernel_rfl) (by kernel_rfl) (by intro p hp; simp only [List.mem_cons, List.not_mem_nil, or_false] at hp; subst hp <;> exact flOp_of rfl rfl rfl (fun ev x => run_allocR rfl newE ev x)) (fun _ _ _ _ h => h) ?_
  refine wpX_loadP rfl rfl rfl rfl HS.out (.tail _ (.head _)) rowE (.all (by first | exact EA.arr ‹_› | exact arr_zE)) ?_; (try simp only [Act.put, nq1, nq2, nq3, nq4, nq5, nq6])
  refine wpX_loadP rfl rfl rfl rfl HS.out (.tail _ (.head _)) rowE (.all (by first | exact EA.arr ‹_› | exact arr_zE)) ?_; (try simp only [Act.put, nq1, nq2, nq3, nq4, nq5, nq6])
  refine wpX_callF rfl rfl rfl en67_rt rfl (fun x => squareA x ‹_›) ?_; rintro xw e wy ⟨z, hz, rfl, hb⟩; refine ⟨_, rfl, hb, ?_⟩; (try simp only [Act.put, nq1, nq2, nq3, nq4, nq5, nq6])
  refine wpX_callF rfl rfl rfl en36_rt rfl (fun x => mulA x ‹_› ‹_›) ?_; rintro xw e wy ⟨z, hz, rfl, hb⟩; refine ⟨_, rfl, hb, ?_⟩; (try simp only [Act.put, nq1, nq2, nq3, nq4, nq5, nq6])
  refine wpX_nil ?_; intro G xz hx0 hx hF; have hS9 := HS.out.floats hx0 hF _ (by decide) (fun _ h => h); simp only [List.map_cons, List.map_nil, List.cons_append, List.nil_append] at hS9; have HS := hide hS9; have HX := hide hx0; have HG := hide hF.at_; clear hS9 hF hx0 hx; simp only [putsE, List.foldl_cons, List.foldl_nil]; (try simp only [Act.put, nq1, nq2, nq3, nq4, nq5, nq6])
  refine wpS_storeF rfl rfl rfl rfl rfl HS.out HX.out (HG.out 4 (by simp)).1 rowE (.head) (by first | exact EA.arr ‹_› | exact arr_zE) (by first | exact EA.arr ‹_› | exact arr_zE) ?_; intro wz hS9 hX9; have HS := hide hS9; have HX := hide hX9; clear hS9 hX9; (try simp only [Act.put, nq1, nq2, nq3, nq4, nq5, nq6])
  refine wpS_nil ?_
  go_wp2_with fail
  have HS := hide HS.out.drew
  refine wp_region_XE [(11, 7)] [(0, 0), (1, 0), (3, 0), (4, 0), (7, 0), (2, 2), (5, 2), (6, 2), (8, 2), (9, 2), (10, 2)] (.op 12 2 (.nil)) zE 61 (by kernel_rfl) (by kernel_rfl) (by kernel_rfl) (by intro p hp; simp only [List.mem_cons, List.not_mem_nil, or_false] at hp; subst hp <;> exact flOp_of rfl rfl rfl (fun ev x => run_allocR rfl newE ev x)) (fun _ _ _ _ h => h) ?_
  refine wpX_loadP rfl rfl rfl rfl HS.out (.tail _ (.tail _ (.tail _ (.head _)))) rowE (.all (by first | exact EA.arr ‹_› | exact arr_zE)) ?_; (try simp only [Act.put, nq1, nq2, nq3, nq4, nq5, nq6])
  refine wpX_loadP rfl rfl rfl rfl HS.out (.head _) rowE (.all (by first | exact EA.arr ‹_› | exact arr_zE)) ?_; (try simp only [Act.put, nq1, nq2, nq3, nq4, nq5, nq6])
  refine wpX_loadP rfl rfl rfl rfl HS.out (.tail _ (.tail _ (.tail _ (.head _)))) rowE (.all (by first | exact EA.arr ‹_› | exact arr_zE)) ?_; (try simp only [Act.put, nq1, nq2, nq3, nq4, nq5, nq6])
  refine wpX_loadP rfl rfl rfl rfl HS.out (.head _) rowE (.all (by first | exact EA.arr ‹_› | exact arr_zE)) ?_; (try simp only [Act.put, nq1, nq2, nq3, nq4, nq5, nq6])
  refine wpX_loadP rfl rfl rfl rfl HS.out (.tail _ (.tail _ (.head _))) rowE (.all (by first | exact EA.arr ‹_› | exact arr_zE)) ?_; (try simp only [Act.put, nq1, nq2, nq3, nq4, nq5, nq6])
  refine wpX_callF rfl rfl rfl en36_rt rfl (fun x => mulA x ‹_› ‹_›) ?_; rintro xw e wy ⟨z, hz, rfl, hb⟩; refine ⟨_, rfl, hb, ?_⟩; (try simp only [Act.put, nq1, nq2, nq3, nq4, nq5, nq6])
  refine wpX_callF rfl rfl rfl en67_rt rfl (fun x => squareA x ‹_›) ?_; rintro xw e wy ⟨z, hz, rfl, hb⟩; refine ⟨_, rfl, hb, ?_⟩; (try simp only [Act.put, nq1, nq2, nq3, nq4, nq5, nq6])
  refine wpX_callF rfl rfl rfl en36_rt rfl (fun x => mulA x ‹_› ‹_›) ?_; rintro xw e wy ⟨z, hz, rfl, hb⟩; refine ⟨_, rfl, hb, ?_⟩; (try simp only [Act.put, nq1, nq2, nq3, nq4, nq5, nq6])
  refine wpX_callF rfl rfl rfl en36_rt rfl (fun x => mulA x ‹_› ‹_›) ?_; rintro xw e wy ⟨z, hz, rfl, hb⟩; refine ⟨_, rfl, hb, ?_⟩; (try simp only [Act.put, nq1, nq2, nq3, nq4, nq5, nq6])
  refine wpX_callF rfl rfl rfl en61_rt rfl (fun x => powA1 x (by assumption)) ?_; rintro xw e wy ⟨z, hz, rfl, hb⟩; refine ⟨_, rfl, hb, ?_⟩; (try simp only [Act.put, nq1, nq2, nq3, nq4, nq5, nq6])
  refine wpX_callF rfl rfl rfl en36_rt rfl (fun x => mulA x ‹_› ‹_›) ?_; rintro xw e wy ⟨z, hz, rfl, hb⟩; refine ⟨_, rfl, hb, ?_⟩; (try simp only [Act.put, nq1, nq2, nq3, nq4, nq5, nq6])
  refine wpX_nil ?_; intro G xz hx0 hx hF; have hS9 := HS.out.floats hx0 hF _ (by decide) (fun _ h => h); simp only [List.map_cons, List.map_nil, List.cons_append, List.nil_append] at hS9; have HS := hide hS9; have HX := hide hx0; have HG := hide hF.at_; clear hS9 hF hx0 hx; simp only [putsE, List.foldl_cons, List.foldl_nil]; (try simp only [Act.put, nq1, nq2, nq3, nq4, nq5, nq6])
  refine wpS_storeF rfl rfl rfl rfl rfl HS.out HX.out (HG.out 11 (by simp)).1 rowE (.head) (by first | exact EA.arr ‹_› | exact arr_zE) (by first | exact EA.arr ‹_› | exact arr_zE) ?_; intro wz hS9 hX9; have HS := hide hS9; have HX := hide hX9; clear hS9 hX9; (try simp only [Act.put, nq1, nq2, nq3, nq4, nq5, nq6])
  refine wpS_nil ?_
  go_wp2_with fail
  have HS := hide HS.out.drew
  refine wp_region_XE [(4, 8)] [(0, 0), (2, 0), (1, 2), (3, 2)] (.op 5 2 (.nil)) zE 61 (by kernel_rfl) (by kernel_rfl) (by kernel_rfl) (by intro p hp; simp only [List.mem_cons, List.not_mem_nil, or_false] at hp; subst hp <;> exact flOp_of rfl rfl rfl (fun ev x => run_allocR rfl newE ev x)) (fun _ _ _ _ h => h) ?_
  refine wpX_loadP rfl rfl rfl rfl HS.out (.head _) rowE (.all (by first | exact EA.arr ‹_› | exact arr_zE)) ?_; (try simp only [Act.put, nq1, nq2, nq3, nq4, nq5, nq6])
  refine wpX_loadP rfl rfl rfl rfl HS.out (.tail _ (.tail _ (.tail _ (.head _)))) rowE (.all (by first | exact EA.arr ‹_› | exact arr_zE)) ?_; (try simp only [Act.put, nq1, nq2, nq3, nq4, nq5, nq6])
  refine wpX_callF rfl rfl rfl en67_rt rfl (fun x => squareA x ‹_›) ?_; rintro xw e wy ⟨z, hz, rfl, hb⟩; refine ⟨_, rfl, hb, ?_⟩; (try simp only [Act.put, nq1, nq2, nq3, nq4, nq5, nq6])
  refine wpX_callF rfl rfl rfl en36_rt rfl (fun x => mulA x ‹_› ‹_›) ?_; rintro xw e wy ⟨z, hz, rfl, hb⟩; refine ⟨_, rfl, hb, ?_⟩; (try simp only [Act.put, nq1, nq2, nq3, nq4, nq5, nq6])
  refine wpX_nil ?_; intro G xz hx0 hx hF; have hS9 := HS.out.floats hx0 hF _ (by decide) (fun _ h => h); simp only [List.map_cons, List.map_nil, List.cons_append, List.nil_append] at hS9; have HS := hide hS9; have HX := hide hx0; have HG := hide hF.at_; clear hS9 hF hx0 hx; simp only [putsE, List.foldl_cons, List.foldl_nil]; (try simp only [Act.put, nq1, nq2, nq3, nq4, nq5, nq6])
  refine wpS_storeF rfl rfl rfl rfl rfl HS.out HX.out (HG.out 4 (by simp)).1 rowE (.head) (by first | exact EA.arr ‹_› | exact arr_zE) (by first | exact EA.arr ‹_› | exact arr_zE) ?_; intro wz hS9 hX9; have HS := hide hS9; have HX := hide hX9; clear hS9 hX9; (try simp only [Act.put, nq1, nq2, nq3, nq4, nq5, nq6])
  refine wpS_nil ?_
  have hX := ‹EA _ (U * (V * V * V) * fpow (U * (V * V * V * (V * V * V)) * V) (2 ^ 252 - 3))›
  have hG := ‹EA _ (U * (V * V * V) * fpow (U * (V * V * V * (V * V * V)) * V) (2 ^ 252 - 3) * (U * (V * V * V) * fpow (U * (V * V * V * (V * V * V)) * V) (2 ^ 252 - 3)) * V)›
  change EA _ (rtX U V) at hX
  change EA _ (rtX U V * rtX U V * V) at hG
  by_cases c1 : rtX U V * rtX U V * V = U
  · have hF : rtF U V = some (evn (rtX U V)) := by unfold rtF; rw [if_pos c1]
    have HSM := hide (fun W => sameA W hG hu)
    rw [decide_eq_true c1] at HSM
    clear c1
    have HOD := hide (fun W => oddA W hX)
    by_cases ho : (rtX U V).val % 2 = 1
    · have hev : evn (rtX U V) = -(rtX U V) := by unfold evn; rw [if_pos ho]
      rw [hev] at hF
      rw [decide_eq_true ho] at HOD
      have HF := hide hF
      clear hF hev ho
      go_wp2_with (first | (go_at_call 128; (with_reducible refine (HSM.out _).mono ?_); rintro e wy ⟨rfl, hb⟩; have HS := hide (HS.out.call hb)) | (go_at_call 85; (with_reducible refine (HOD.out _).mono ?_); rintro e wy ⟨rfl, hb⟩; have HS := hide (HS.out.call hb)) | (go_at_call 91; (with_reducible refine (negA _ hX).mono ?_); rintro e wy ⟨zn, hzn, rfl, hb⟩; have HS := hide (HS.out.call hb)) | (refine wl_loadP rfl rfl rfl HS.out (.head _) rowE (.all (by first | exact EA.arr ‹_› | exact arr_zE)) ?_; (try simp only [Act.put, nq1, nq2, nq3, nq4, nq5, nq6])) | (refine wl_loadP rfl rfl rfl HS.out (.tail _ (.tail _ (.tail _ (.tail _ (.tail _ (.head _)))))) rowE (.all (by first | exact EA.arr ‹_› | exact arr_zE)) ?_; (try simp only [Act.put, nq1, nq2, nq3, nq4, nq5, nq6])) | (refine wl_storeR rfl rfl rfl rfl HS.out rowE (.tail (.tail (.tail (.head)))) (by first | exact EA.arr ‹_› | exact arr_zE) (by first | exact EA.arr ‹_› | exact arr_zE) ?_; intro wz hS9; have HS := hide hS9; clear hS9; (try simp only [Act.put, nq1, nq2, nq3, nq4, nq5, nq6])) | (refine wl_loadP rfl rfl rfl HS.out (.tail _ (.head _)) rowE (.all (by first | exact EA.arr ‹_› | exact arr_zE)) ?_; (try simp only [Act.put, nq1, nq2, nq3, nq4, nq5, nq6])) | (refine wl_storeR rfl rfl rfl rfl HS.out rowE (.tail (.head)) (by first | exact EA.arr ‹_› | exact arr_zE) (by first | exact EA.arr ‹_› | exact arr_zE) ?_; intro wz hS9; have HS := hide hS9; clear hS9; (try simp only [Act.put, nq1, nq2, nq3, nq4, nq5, nq6])))
      refine bodyPost_ret (results_cell_tmp_row rfl _ _ _ _ _ _ _ rfl (HS.out.heapM (by (repeat first | exact .head _ | apply List.Mem.tail))) Tryz.underlying61 rfl (by first | (rw [(EA.arr ‹_›).size]; kernel_rfl) | (rw [(NA.arr ‹_›).size]; kernel_rfl) | (rw [(qE ‹_› ‹_› ‹_› ‹_›).size]; kernel_rfl) | (rw [(qN ‹_› ‹_› ‹_› ‹_›).size]; kernel_rfl) | (rw [(PtN.arr ‹_›).size]; kernel_rfl) | (rw [(PtV.arr ‹_›).size]; kernel_rfl) | (rw [(QtN.arr ‹_›).size]; kernel_rfl))) rfl ?_
      rw [HF.out]
      exact ⟨_, hzn, rfl, HS.out.below⟩
    · have hev : evn (rtX U V) = rtX U V := by unfold evn; rw [if_neg ho]
      rw [hev] at hF
      rw [decide_eq_false ho] at HOD
      have HF := hide hF
      clear hF hev ho
      go_wp2_with (first | (go_at_call 128; (with_reducible refine (HSM.out _).mono ?_); rintro e wy ⟨rfl, hb⟩; have HS := hide (HS.out.call hb)) | (go_at_call 85; (with_reducible refine (HOD.out _).mono ?_); rintro e wy ⟨rfl, hb⟩; have HS := hide (HS.out.call hb)) | (refine wl_loadP rfl rfl rfl HS.out (.head _) rowE (.all (by first | exact EA.arr ‹_› | exact arr_zE)) ?_; (try simp only [Act.put, nq1, nq2, nq3, nq4, nq5, nq6])) | (refine wl_loadP rfl rfl rfl HS.out (.tail _ (.tail _ (.tail _ (.tail _ (.tail _ (.head _)))))) rowE (.all (by first | exact EA.arr ‹_› | exact arr_zE)) ?_; (try simp only [Act.put, nq1, nq2, nq3, nq4, nq5, nq6])) | (refine wl_storeR rfl rfl rfl rfl HS.out rowE (.tail (.tail (.tail (.head)))) (by first | exact EA.arr ‹_› | exact arr_zE) (by first | exact EA.arr ‹_› | exact arr_zE) ?_; intro wz hS9; have HS := hide hS9; clear hS9; (try simp only [Act.put, nq1, nq2, nq3, nq4, nq5, nq6])) | (refine wl_loadP rfl rfl rfl HS.out (.tail _ (.head _)) rowE (.all (by first | exact EA.arr ‹_› | exact arr_zE)) ?_; (try simp only [Act.put, nq1, nq2, nq3, nq4, nq5, nq6])) | (refine wl_storeR rfl rfl rfl rfl HS.out rowE (.tail (.head)) (by first | exact EA.arr ‹_› | exact arr_zE) (by first | exact EA.arr ‹_› | exact arr_zE) ?_; intro wz hS9; have HS := hide hS9; clear hS9; (try simp only [Act.put, nq1, nq2, nq3, nq4, nq5, nq6])))
      refine bodyPost_ret (results_cell_tmp_row rfl _ _ _ _ _ _ _ rfl (HS.out.heapM (by (repeat first | exact .head _ | apply List.Mem.tail))) Tryz.underlying61 rfl (by first | (rw [(EA.arr ‹_›).size]; kernel_rfl) | (rw [(NA.arr ‹_›).size]; kernel_rfl) | (rw [(qE ‹_› ‹_› ‹_› ‹_›).size]; kernel_rfl) | (rw [(qN ‹_› ‹_› ‹_› ‹_›).size]; kernel_rfl) | (rw [(PtN.arr ‹_›).size]; kernel_rfl) | (rw [(PtV.arr ‹_›).size]; kernel_rfl) | (rw [(QtN.arr ‹_›).size]; kernel_rfl))) rfl ?_
      rw [HF.out]
      exact ⟨_, hX, rfl, HS.out.below⟩
  · by_cases c2 : rtX U V * rtX U V * V = -U
    · have hF : rtF U V = some (evn (rtX U V * iF)) := by unfold rtF; rw [if_neg c1, if_pos c2]
      have HSM := hide (fun W => sameA W hG hu)
      rw [decide_eq_false c1] at HSM
      have HC2 := hide c2
      clear c1 c2
      go_wp2_with (first | (go_at_call 128; (with_reducible refine (HSM.out _).mono ?_); rintro e wy ⟨rfl, hb⟩; have HS := hide (HS.out.call hb)) | (refine wl_loadP rfl rfl rfl HS.out (.head _) rowE (.all (by first | exact EA.arr ‹_› | exact arr_zE)) ?_; (try simp only [Act.put, nq1, nq2, nq3, nq4, nq5, nq6])) | (refine wl_loadP rfl rfl rfl HS.out (.tail _ (.tail _ (.tail _ (.tail _ (.tail _ (.head _)))))) rowE (.all (by first | exact EA.arr ‹_› | exact arr_zE)) ?_; (try simp only [Act.put, nq1, nq2, nq3, nq4, nq5, nq6])) | (refine wl_storeR rfl rfl rfl rfl HS.out rowE (.tail (.tail (.tail (.head)))) (by first | exact EA.arr ‹_› | exact arr_zE) (by first | exact EA.arr ‹_› | exact arr_zE) ?_; intro wz hS9; have HS := hide hS9; clear hS9; (try simp only [Act.put, nq1, nq2, nq3, nq4, nq5, nq6])) | (refine wl_loadP rfl rfl rfl HS.out (.tail _ (.head _)) rowE (.all (by first | exact EA.arr ‹_› | exact arr_zE)) ?_; (try simp only [Act.put, nq1, nq2, nq3, nq4, nq5, nq6])) | (refine wl_storeR rfl rfl rfl rfl HS.out rowE (.tail (.head)) (by first | exact EA.arr ‹_› | exact arr_zE) (by first | exact EA.arr ‹_› | exact arr_zE) ?_; intro wz hS9; have HS := hide hS9; clear hS9; (try simp only [Act.put, nq1, nq2, nq3, nq4, nq5, nq6])))
      have HS := hide HS.out.drew
      refine wp_region_T [(0, 0), (1, 0), (2, 2), (3, 2), (4, 1)] (by kernel_rfl) (by kernel_rfl) (fun _ _ _ _ h => h) ?_
      refine wpT_loadP rfl rfl rfl rfl HS.out (.head _) rowE (.all (by first | exact EA.arr ‹_› | exact arr_zE)) ?_; (try simp only [Act.put, nq1, nq2, nq3, nq4, nq5, nq6])
      refine wpT_loadP rfl rfl rfl rfl HS.out (.tail _ (.tail _ (.tail _ (.tail _ (.tail _ (.head _)))))) rowE (.all (by first | exact EA.arr ‹_› | exact arr_zE)) ?_; (try simp only [Act.put, nq1, nq2, nq3, nq4, nq5, nq6])
      refine wpT_callF rfl rfl rfl en45_rt rfl (negA _ ‹_›) ?_; rintro e wy ⟨z, hz, rfl, hb⟩; refine ⟨_, rfl, hb, ?_⟩; have HS := hide (HS.out.call hb); (try simp only [Act.put, nq1, nq2, nq3, nq4, nq5, nq6])
      refine wpT_callF rfl rfl rfl en68_rt rfl (sameA _ ‹_› ‹_›) ?_; rintro e wy ⟨rfl, hb⟩; refine ⟨_, rfl, hb, ?_⟩; have HS := hide (HS.out.call hb); (try simp only [Act.put, nq1, nq2, nq3, nq4, nq5, nq6])
      (refine wpT_pure (v := ?_) rfl rfl ?_ ?_; rotate_left; (intro wx; go_simp; try go_bits) <;> (with_reducible rfl)); (try simp only [Act.put, nq1, nq2, nq3, nq4, nq5, nq6])
      refine wpT_nil ?_
      rw [decide_eq_true HC2.out]
      go_wp2_with fail
      have HS := hide HS.out.drew
      refine wp_region_T [(0, 0), (1, 2), (2, 2), (3, 2), (4, 3)] (by kernel_rfl) (by kernel_rfl) (fun _ _ _ _ h => h) ?_
      refine wpT_loadP rfl rfl rfl rfl HS.out (.tail _ (.head _)) rowE (.all (by first | exact EA.arr ‹_› | exact arr_zE)) ?_; (try simp only [Act.put, nq1, nq2, nq3, nq4, nq5, nq6])
      refine wpT_callF rfl rfl rfl en48_rt rfl (small2A _) ?_; rintro e wy ⟨z, hz, rfl, hb⟩; refine ⟨_, rfl, hb, ?_⟩; have HS := hide (HS.out.call hb); (try simp only [Act.put, nq1, nq2, nq3, nq4, nq5, nq6])
      refine wpT_callF rfl rfl rfl en61_rt rfl (powA2 _ (by assumption)) ?_; rintro e wy ⟨z, hz, rfl, hb⟩; refine ⟨_, rfl, hb, ?_⟩; have HS := hide (HS.out.call hb); (try simp only [Act.put, nq1, nq2, nq3, nq4, nq5, nq6])
      refine wpT_callF rfl rfl rfl en36_rt rfl (mulA _ ‹_› ‹_›) ?_; rintro e wy ⟨z, hz, rfl, hb⟩; refine ⟨_, rfl, hb, ?_⟩; have HS := hide (HS.out.call hb); (try simp only [Act.put, nq1, nq2, nq3, nq4, nq5, nq6])
      refine wpT_late rfl rfl ?_; intro K hK; refine wp_storeR rfl rfl rfl HS.out rowE (.tail (.head)) (by first | exact EA.arr ‹_› | exact arr_zE) (by first | exact EA.arr ‹_› | exact arr_zE) ?_; intro wz hS9; have HS := hide hS9; clear hS9; refine hK _ _ ?_; (try simp only [Act.put, nq1, nq2, nq3, nq4, nq5, nq6])
      refine wpT_nil ?_
      have hXI := ‹EA _ (rtX U V * fpow (toF 2) (2 ^ 253 - 5))›
      rw [two_root] at hXI
      have HOD := hide (fun W => oddA W hXI)
      by_cases ho : (rtX U V * iF).val % 2 = 1
      · have hev : evn (rtX U V * iF) = -(rtX U V * iF) := by unfold evn; rw [if_pos ho]
        rw [hev] at hF
        rw [decide_eq_true ho] at HOD
        have HF := hide hF
        clear hF hev ho
        go_wp2_with (first | (go_at_call 85; (with_reducible refine (HOD.out _).mono ?_); rintro e wy ⟨rfl, hb⟩; have HS := hide (HS.out.call hb)) | (go_at_call 91; (with_reducible refine (negA _ hXI).mono ?_); rintro e wy ⟨zn, hzn, rfl, hb⟩; have HS := hide (HS.out.call hb)) | (refine wl_loadP rfl rfl rfl HS.out (.head _) rowE (.all (by first | exact EA.arr ‹_› | exact arr_zE)) ?_; (try simp only [Act.put, nq1, nq2, nq3, nq4, nq5, nq6])) | (refine wl_loadP rfl rfl rfl HS.out (.tail _ (.tail _ (.tail _ (.tail _ (.tail _ (.head _)))))) rowE (.all (by first | exact EA.arr ‹_› | exact arr_zE)) ?_; (try simp only [Act.put, nq1, nq2, nq3, nq4, nq5, nq6])) | (refine wl_storeR rfl rfl rfl rfl HS.out rowE (.tail (.tail (.tail (.head)))) (by first | exact EA.arr ‹_› | exact arr_zE) (by first | exact EA.arr ‹_› | exact arr_zE) ?_; intro wz hS9; have HS := hide hS9; clear hS9; (try simp only [Act.put, nq1, nq2, nq3, nq4, nq5, nq6])) | (refine wl_loadP rfl rfl rfl HS.out (.tail _ (.head _)) rowE (.all (by first | exact EA.arr ‹_› | exact arr_zE)) ?_; (try simp only [Act.put, nq1, nq2, nq3, nq4, nq5, nq6])) | (refine wl_storeR rfl rfl rfl rfl HS.out rowE (.tail (.head)) (by first | exact EA.arr ‹_› | exact arr_zE) (by first | exact EA.arr ‹_› | exact arr_zE) ?_; intro wz hS9; have HS := hide hS9; clear hS9; (try simp only [Act.put, nq1, nq2, nq3, nq4, nq5, nq6])))
        refine bodyPost_ret (results_cell_tmp_row rfl _ _ _ _ _ _ _ rfl (HS.out.heapM (by (repeat first | exact .head _ | apply List.Mem.tail))) Tryz.underlying61 rfl (by first | (rw [(EA.arr ‹_›).size]; kernel_rfl) | (rw [(NA.arr ‹_›).size]; kernel_rfl) | (rw [(qE ‹_› ‹_› ‹_› ‹_›).size]; kernel_rfl) | (rw [(qN ‹_› ‹_› ‹_› ‹_›).size]; kernel_rfl) | (rw [(PtN.arr ‹_›).size]; kernel_rfl) | (rw [(PtV.arr ‹_›).size]; kernel_rfl) | (rw [(QtN.arr ‹_›).size]; kernel_rfl))) rfl ?_
        rw [HF.out]
        exact ⟨_, hzn, rfl, HS.out.below⟩
      · have hev : evn (rtX U V * iF) = rtX U V * iF := by unfold evn; rw [if_neg ho]
        rw [hev] at hF
        rw [decide_eq_false ho] at HOD
        have HF := hide hF
        clear hF hev ho
        go_wp2_with (first | (go_at_call 85; (with_reducible refine (HOD.out _).mono ?_); rintro e wy ⟨rfl, hb⟩; have HS := hide (HS.out.call hb)) | (refine wl_loadP rfl rfl rfl HS.out (.head _) rowE (.all (by first | exact EA.arr ‹_› | exact arr_zE)) ?_; (try simp only [Act.put, nq1, nq2, nq3, nq4, nq5, nq6])) | (refine wl_loadP rfl rfl rfl HS.out (.tail _ (.tail _ (.tail _ (.tail _ (.tail _ (.head _)))))) rowE (.all (by first | exact EA.arr ‹_› | exact arr_zE)) ?_; (try simp only [Act.put, nq1, nq2, nq3, nq4, nq5, nq6])) | (refine wl_storeR rfl rfl rfl rfl HS.out rowE (.tail (.tail (.tail (.head)))) (by first | exact EA.arr ‹_› | exact arr_zE) (by first | exact EA.arr ‹_› | exact arr_zE) ?_; intro wz hS9; have HS := hide hS9; clear hS9; (try simp only [Act.put, nq1, nq2, nq3, nq4, nq5, nq6])) | (refine wl_loadP rfl rfl rfl HS.out (.tail _ (.head _)) rowE (.all (by first | exact EA.arr ‹_› | exact arr_zE)) ?_; (try simp only [Act.put, nq1, nq2, nq3, nq4, nq5, nq6])) | (refine wl_storeR rfl rfl rfl rfl HS.out rowE (.tail (.head)) (by first | exact EA.arr ‹_› | exact arr_zE) (by first | exact EA.arr ‹_› | exact arr_zE) ?_; intro wz hS9; have HS := hide hS9; clear hS9; (try simp only [Act.put, nq1, nq2, nq3, nq4, nq5, nq6])))
        refine bodyPost_ret (results_cell_tmp_row rfl _ _ _ _ _ _ _ rfl (HS.out.heapM (by (repeat first | exact .head _ | apply List.Mem.tail))) Tryz.underlying61 rfl (by first | (rw [(EA.arr ‹_›).size]; kernel_rfl) | (rw [(NA.arr ‹_›).size]; kernel_rfl) | (rw [(qE ‹_› ‹_› ‹_› ‹_›).size]; kernel_rfl) | (rw [(qN ‹_› ‹_› ‹_› ‹_›).size]; kernel_rfl) | (rw [(PtN.arr ‹_›).size]; kernel_rfl) | (rw [(PtV.arr ‹_›).size]; kernel_rfl) | (rw [(QtN.arr ‹_›).size]; kernel_rfl))) rfl ?_
        rw [HF.out]
        exact ⟨_, hXI, rfl, HS.out.below⟩
    · have hF : rtF U V = none := by unfold rtF; rw [if_neg c1, if_neg c2]
      have HSM := hide (fun W => sameA W hG hu)
      rw [decide_eq_false c1] at HSM
      have HC2 := hide c2
      have HF := hide hF
      clear c1 c2 hF
      have hz0 := ea_zero
      go_wp2_with (first | (go_at_call 128; (with_reducible refine (HSM.out _).mono ?_); rintro e wy ⟨rfl, hb⟩; have HS := hide (HS.out.call hb)) | (refine wl_loadP rfl rfl rfl HS.out (.head _) rowE (.all (by first | exact EA.arr ‹_› | exact arr_zE)) ?_; (try simp only [Act.put, nq1, nq2, nq3, nq4, nq5, nq6])) | (refine wl_loadP rfl rfl rfl HS.out (.tail _ (.tail _ (.tail _ (.tail _ (.tail _ (.head _)))))) rowE (.all (by first | exact EA.arr ‹_› | exact arr_zE)) ?_; (try simp only [Act.put, nq1, nq2, nq3, nq4, nq5, nq6])) | (refine wl_storeR rfl rfl rfl rfl HS.out rowE (.tail (.tail (.tail (.head)))) (by first | exact EA.arr ‹_› | exact arr_zE) (by first | exact EA.arr ‹_› | exact arr_zE) ?_; intro wz hS9; have HS := hide hS9; clear hS9; (try simp only [Act.put, nq1, nq2, nq3, nq4, nq5, nq6])) | (refine wl_loadP rfl rfl rfl HS.out (.tail _ (.head _)) rowE (.all (by first | exact EA.arr ‹_› | exact arr_zE)) ?_; (try simp only [Act.put, nq1, nq2, nq3, nq4, nq5, nq6])) | (refine wl_storeR rfl rfl rfl rfl HS.out rowE (.tail (.head)) (by first | exact EA.arr ‹_› | exact arr_zE) (by first | exact EA.arr ‹_› | exact arr_zE) ?_; intro wz hS9; have HS := hide hS9; clear hS9; (try simp only [Act.put, nq1, nq2, nq3, nq4, nq5, nq6])))
      have HS := hide HS.out.drew
      refine wp_region_T [(0, 0), (1, 0), (2, 2), (3, 2), (4, 1)] (by kernel_rfl) (by kernel_rfl) (fun _ _ _ _ h => h) ?_
      refine wpT_loadP rfl rfl rfl rfl HS.out (.head _) rowE (.all (by first | exact EA.arr ‹_› | exact arr_zE)) ?_; (try simp only [Act.put, nq1, nq2, nq3, nq4, nq5, nq6])
      refine wpT_loadP rfl rfl rfl rfl HS.out (.tail _ (.tail _ (.tail _ (.tail _ (.tail _ (.head _)))))) rowE (.all (by first | exact EA.arr ‹_› | exact arr_zE)) ?_; (try simp only [Act.put, nq1, nq2, nq3, nq4, nq5, nq6])
      refine wpT_callF rfl rfl rfl en45_rt rfl (negA _ ‹_›) ?_; rintro e wy ⟨z, hz, rfl, hb⟩; refine ⟨_, rfl, hb, ?_⟩; have HS := hide (HS.out.call hb); (try simp only [Act.put, nq1, nq2, nq3, nq4, nq5, nq6])
      refine wpT_callF rfl rfl rfl en68_rt rfl (sameA _ ‹_› ‹_›) ?_; rintro e wy ⟨rfl, hb⟩; refine ⟨_, rfl, hb, ?_⟩; have HS := hide (HS.out.call hb); (try simp only [Act.put, nq1, nq2, nq3, nq4, nq5, nq6])
      (refine wpT_pure (v := ?_) rfl rfl ?_ ?_; rotate_left; (intro wx; go_simp; try go_bits) <;> (with_reducible rfl)); (try simp only [Act.put, nq1, nq2, nq3, nq4, nq5, nq6])
      refine wpT_nil ?_
      rw [decide_eq_false HC2.out]
      go_wp2_with (first | (refine wl_loadP rfl rfl rfl HS.out (.head _) rowE (.all (by first | exact EA.arr ‹_› | exact arr_zE)) ?_; (try simp only [Act.put, nq1, nq2, nq3, nq4, nq5, nq6])) | (refine wl_loadP rfl rfl rfl HS.out (.tail _ (.tail _ (.tail _ (.tail _ (.tail _ (.head _)))))) rowE (.all (by first | exact EA.arr ‹_› | exact arr_zE)) ?_; (try simp only [Act.put, nq1, nq2, nq3, nq4, nq5, nq6])) | (refine wl_storeR rfl rfl rfl rfl HS.out rowE (.tail (.tail (.tail (.head)))) (by first | exact EA.arr ‹_› | exact arr_zE) (by first | exact EA.arr ‹_› | exact arr_zE) ?_; intro wz hS9; have HS := hide hS9; clear hS9; (try simp only [Act.put, nq1, nq2, nq3, nq4, nq5, nq6])) | (refine wl_loadP rfl rfl rfl HS.out (.tail _ (.head _)) rowE (.all (by first | exact EA.arr ‹_› | exact arr_zE)) ?_; (try simp only [Act.put, nq1, nq2, nq3, nq4, nq5, nq6])) | (refine wl_storeR rfl rfl rfl rfl HS.out rowE (.tail (.head)) (by first | exact EA.arr ‹_› | exact arr_zE) (by first | exact EA.arr ‹_› | exact arr_zE) ?_; intro wz hS9; have HS := hide hS9; clear hS9; (try simp only [Act.put, nq1, nq2, nq3, nq4, nq5, nq6])))
      refine bodyPost_ret (results_cell_tmp_row rfl _ _ _ _ _ _ _ rfl (HS.out.heapM (by (repeat first | exact .head _ | apply List.Mem.tail))) Tryz.underlying61 rfl (by first | (rw [(EA.arr ‹_›).size]; kernel_rfl) | (rw [(NA.arr ‹_›).size]; kernel_rfl) | (rw [(qE ‹_› ‹_› ‹_› ‹_›).size]; kernel_rfl) | (rw [(qN ‹_› ‹_› ‹_› ‹_›).size]; kernel_rfl) | (rw [(PtN.arr ‹_›).size]; kernel_rfl) | (rw [(PtV.arr ‹_›).size]; kernel_rfl) | (rw [(QtN.arr ‹_›).size]; kernel_rfl))) rfl ?_
      rw [HF.out]
      exact ⟨_, hz0, rfl, HS.out.below⟩
end Go.Proofs.YtnohmgpmmhlloaaGreatDoor

namespace Go.Proofs.YtnohmgpmmhlloaaGreatDoor
open Go.RowKit
set_option linter.unusedSimpArgs false

theorem en36_pl (args : Array Value) (w : World) : (callFunc 83 args).run Tryz.prog w = .ok (.enter 83 args) w := by kernel_rfl
theorem en52_pl (args : Array Value) (w : World) : (callFunc 88 args).run Tryz.prog w = .ok (.enter 88 args) w := by kernel_rfl
theorem en53_pl (args : Array Value) (w : World) : (callFunc 90 args).run Tryz.prog w = .ok (.enter 90 args) w := by kernel_rfl
set_option maxRecDepth 100000 in
set_option maxHeartbeats 6400000 in
theorem plus_any {a b c d a' b' c' d' k : Array Value} {X Y Z T X' Y' Z' T' : FK} (w : World) (h1 : EA a X) (h2 : EA b Y) (h3 : EA c Z) (h4 : EA d T) (g1 : EA a' X') (g2 : EA b' Y') (g3 : EA c' Z') (g4 : EA d' T') (hk : EA k dF) :
    Calls Tryz.prog 80 #[.agg (quad a b c d), .agg (quad a' b' c' d'), .agg k] w (ResP w (plJ ⟨X, Y, Z, T⟩ ⟨X', Y', Z', T'⟩)) := by
  have HS := hide (St.init w NoB)
  go_enter Tryz.func80, Tryz.ntmps80
  go_wp2_with (first | (refine wl_loadP rfl rfl rfl HS.out (by (repeat first | exact .head _ | apply List.Mem.tail)) (by first | exact rowE | exact rowP | exact rowN | exact rowQ) (by (first | exact .q0 (EA.arr ‹_›) | exact .q1 (EA.arr ‹_›) (EA.arr ‹_›) | exact .q2 (EA.arr ‹_›) (EA.arr ‹_›) (EA.arr ‹_›) | exact .q3 (EA.arr ‹_›) (EA.arr ‹_›) (EA.arr ‹_›) (EA.arr ‹_›) | exact .q0 (NA.arr ‹_›) | exact .q1 (NA.arr ‹_›) (NA.arr ‹_›) | exact .q2 (NA.arr ‹_›) (NA.arr ‹_›) (NA.arr ‹_›) | exact .q3 (NA.arr ‹_›) (NA.arr ‹_›) (NA.arr ‹_›) (NA.arr ‹_›) | exact .all (by (first | exact EA.arr ‹_› | exact NA.arr ‹_› | exact arr_zE | exact arr_zN | exact arr_zP | exact arr_zQ | exact PtN.arr ‹_› | exact PtV.arr ‹_› | exact QtN.arr ‹_› | exact qE ‹_› ‹_› ‹_› ‹_› | exact qN ‹_› ‹_› ‹_› ‹_›)))) ?_; (try simp only [Act.put, nq1, nq2, nq3, nq4, nq5, nq6])) | (refine wl_storeR rfl rfl rfl rfl HS.out (by first | exact rowE | exact rowP | exact rowN | exact rowQ) (by (repeat first | exact .head | apply Upd.tail)) (by (first | exact EA.arr ‹_› | exact NA.arr ‹_› | exact arr_zE | exact arr_zN | exact arr_zP | exact arr_zQ | exact PtN.arr ‹_› | exact PtV.arr ‹_› | exact QtN.arr ‹_› | exact qE ‹_› ‹_› ‹_› ‹_› | exact qN ‹_› ‹_› ‹_› ‹_›)) (by (first | exact EA.arr ‹_› | exact NA.arr ‹_› | exact arr_zE | exact arr_zN | exact arr_zP | exact arr_zQ | exact PtN.arr ‹_› | exact PtV.arr ‹_› | exact QtN.arr ‹_› | exact qE ‹_› ‹_› ‹_› ‹_› | exact qN ‹_› ‹_› ‹_› ‹_›)) ?_; intro wz hS9; have HS := hide hS9; clear hS9; (try simp only [Act.put, nq1, nq2, nq3, nq4, nq5, nq6])) | (refine wl_allocR rfl rfl HS.out (by first | exact newE | exact newP | exact newN | exact newQ) ?_; intro gz wz hS9; have HS := hide hS9; clear hS9; (try simp only [Act.put, nq1, nq2, nq3, nq4, nq5, nq6])) | (refine wl_boxR rfl rfl rfl HS.out ?_; intro gz wz hS9; have HS := hide hS9; clear hS9; (try simp only [Act.put, nq1, nq2, nq3, nq4, nq5, nq6])))
  have HS := hide HS.out.drew
  refine wp_region_XE [(11, 7)] [(0, 1), (1, 0), (2, 1), (3, 0), (5, 1), (6, 0), (7, 1), (8, 0), (4, 2), (9, 2), (10, 2)] (.op 12 2 (.nil)) zE 61 (by kernel_rfl) (by kernel_rfl) (by kernel_rfl) (by intro p hp; simp only [List.mem_cons, List.not_mem_nil, or_false] at hp; subst hp <;> exact flOp_of rfl rfl rfl (fun ev x => run_allocR rfl newE ev x)) (fun _ _ _ _ h => h) ?_
  (refine wpX_pure (v := ?_) rfl rfl ?_ ?_; rotate_left; (intro wx; go_simp; try go_bits) <;> (with_reducible rfl)); (try simp only [Act.put, nq1, nq2, nq3, nq4, nq5, nq6])
  refine wpX_loadP rfl rfl rfl rfl HS.out (.tail _ (.tail _ (.tail _ (.head _)))) rowE (.q1 (EA.arr ‹_›) (EA.arr ‹_›)) ?_; (try simp only [Act.put, nq1, nq2, nq3, nq4, nq5, nq6])
  (refine wpX_pure (v := ?_) rfl rfl ?_ ?_; rotate_left; (intro wx; go_simp; try go_bits) <;> (with_reducible rfl)); (try simp only [Act.put, nq1, nq2, nq3, nq4, nq5, nq6])
  refine wpX_loadP rfl rfl rfl rfl HS.out (.tail _ (.tail _ (.tail _ (.head _)))) rowE (.q0 (EA.arr ‹_›)) ?_; (try simp only [Act.put, nq1, nq2, nq3, nq4, nq5, nq6])
  (refine wpX_pure (v := ?_) rfl rfl ?_ ?_; rotate_left; (intro wx; go_simp; try go_bits) <;> (with_reducible rfl)); (try simp only [Act.put, nq1, nq2, nq3, nq4, nq5, nq6])
  refine wpX_loadP rfl rfl rfl rfl HS.out (.tail _ (.tail _ (.head _))) rowE (.q1 (EA.arr ‹_›) (EA.arr ‹_›)) ?_; (try simp only [Act.put, nq1, nq2, nq3, nq4, nq5, nq6])
  (refine wpX_pure (v := ?_) rfl rfl ?_ ?_; rotate_left; (intro wx; go_simp; try go_bits) <;> (with_reducible rfl)); (try simp only [Act.put, nq1, nq2, nq3, nq4, nq5, nq6])
  refine wpX_loadP rfl rfl rfl rfl HS.out (.tail _ (.tail _ (.head _))) rowE (.q0 (EA.arr ‹_›)) ?_; (try simp only [Act.put, nq1, nq2, nq3, nq4, nq5, nq6])
  refine wpX_callF rfl rfl rfl en52_pl rfl (fun x => subA x ‹_› ‹_›) ?_; rintro xw e wy ⟨z, hz, rfl, hb⟩; refine ⟨_, rfl, hb, ?_⟩; (try simp only [Act.put, nq1, nq2, nq3, nq4, nq5, nq6])
  refine wpX_callF rfl rfl rfl en52_pl rfl (fun x => subA x ‹_› ‹_›) ?_; rintro xw e wy ⟨z, hz, rfl, hb⟩; refine ⟨_, rfl, hb, ?_⟩; (try simp only [Act.put, nq1, nq2, nq3, nq4, nq5, nq6])
  refine wpX_callF rfl rfl rfl en36_pl rfl (fun x => mulA x ‹_› ‹_›) ?_; rintro xw e wy ⟨z, hz, rfl, hb⟩; refine ⟨_, rfl, hb, ?_⟩; (try simp only [Act.put, nq1, nq2, nq3, nq4, nq5, nq6])
  refine wpX_nil ?_; intro G xz hx0 hx hF; have hS9 := HS.out.floats hx0 hF _ (by decide) (fun _ h => h); simp only [List.map_cons, List.map_nil, List.cons_append, List.nil_append] at hS9; have HS := hide hS9; have HX := hide hx0; have HG := hide hF.at_; clear hS9 hF hx0 hx; simp only [putsE, List.foldl_cons, List.foldl_nil]; (try simp only [Act.put, nq1, nq2, nq3, nq4, nq5, nq6])
  refine wpS_storeF rfl rfl rfl rfl rfl HS.out HX.out (HG.out 11 (by simp)).1 rowE (.head) (by first | exact EA.arr ‹_› | exact arr_zE) (by first | exact EA.arr ‹_› | exact arr_zE) ?_; intro wz hS9 hX9; have HS := hide hS9; have HX := hide hX9; clear hS9 hX9; (try simp only [Act.put, nq1, nq2, nq3, nq4, nq5, nq6])
  refine wpS_nil ?_
  go_wp2_with fail
  have HS := hide HS.out.drew
  refine wp_region_XE [(11, 8)] [(0, 1), (1, 0), (2, 1), (3, 0), (5, 1), (6, 0), (7, 1), (8, 0), (4, 2), (9, 2), (10, 2)] (.op 12 2 (.nil)) zE 61 (by kernel_rfl) (by kernel_rfl) (by kernel_rfl) (by intro p hp; simp only [List.mem_cons, List.not_mem_nil, or_false] at hp; subst hp <;> exact flOp_of rfl rfl rfl (fun ev x => run_allocR rfl newE ev x)) (fun _ _ _ _ h => h) ?_
  (refine wpX_pure (v := ?_) rfl rfl ?_ ?_; rotate_left; (intro wx; go_simp; try go_bits) <;> (with_reducible rfl)); (try simp only [Act.put, nq1, nq2, nq3, nq4, nq5, nq6])
  refine wpX_loadP rfl rfl rfl rfl HS.out (.tail _ (.tail _ (.tail _ (.tail _ (.head _))))) rowE (.q1 (EA.arr ‹_›) (EA.arr ‹_›)) ?_; (try simp only [Act.put, nq1, nq2, nq3, nq4, nq5, nq6])
  (refine wpX_pure (v := ?_) rfl rfl ?_ ?_; rotate_left; (intro wx; go_simp; try go_bits) <;> (with_reducible rfl)); (try simp only [Act.put, nq1, nq2, nq3, nq4, nq5, nq6])
  refine wpX_loadP rfl rfl rfl rfl HS.out (.tail _ (.tail _ (.tail _ (.tail _ (.head _))))) rowE (.q0 (EA.arr ‹_›)) ?_; (try simp only [Act.put, nq1, nq2, nq3, nq4, nq5, nq6])
  (refine wpX_pure (v := ?_) rfl rfl ?_ ?_; rotate_left; (intro wx; go_simp; try go_bits) <;> (with_reducible rfl)); (try simp only [Act.put, nq1, nq2, nq3, nq4, nq5, nq6])
  refine wpX_loadP rfl rfl rfl rfl HS.out (.tail _ (.tail _ (.tail _ (.head _)))) rowE (.q1 (EA.arr ‹_›) (EA.arr ‹_›)) ?_; (try simp only [Act.put, nq1, nq2, nq3, nq4, nq5, nq6])
  (refine wpX_pure (v := ?_) rfl rfl ?_ ?_; rotate_left; (intro wx; go_simp; try go_bits) <;> (with_reducible rfl)); (try simp only [Act.put, nq1, nq2, nq3, nq4, nq5, nq6])
  refine wpX_loadP rfl rfl rfl rfl HS.out (.tail _ (.tail _ (.tail _ (.head _)))) rowE (.q0 (EA.arr ‹_›)) ?_; (try simp only [Act.put, nq1, nq2, nq3, nq4, nq5, nq6])
  refine wpX_callF rfl rfl rfl en53_pl rfl (fun x => addA x ‹_› ‹_›) ?_; rintro xw e wy ⟨z, hz, rfl, hb⟩; refine ⟨_, rfl, hb, ?_⟩; (try simp only [Act.put, nq1, nq2, nq3, nq4, nq5, nq6])
  refine wpX_callF rfl rfl rfl en53_pl rfl (fun x => addA x ‹_› ‹_›) ?_; rintro xw e wy ⟨z, hz, rfl, hb⟩; refine ⟨_, rfl, hb, ?_⟩; (try simp only [Act.put, nq1, nq2, nq3, nq4, nq5, nq6])
  refine wpX_callF rfl rfl rfl en36_pl rfl (fun x => mulA x ‹_› ‹_›) ?_; rintro xw e wy ⟨z, hz, rfl, hb⟩; refine ⟨_, rfl, hb, ?_⟩; (try simp only [Act.put, nq1, nq2, nq3, nq4, nq5, nq6])
  refine wpX_nil ?_; intro G xz hx0 hx hF; have hS9 := HS.out.floats hx0 hF _ (by decide) (fun _ h => h); simp only [List.map_cons, List.map_nil, List.cons_append, List.nil_append] at hS9; have HS := hide hS9; have HX := hide hx0; have HG := hide hF.at_; clear hS9 hF hx0 hx; simp only [putsE, List.foldl_cons, List.foldl_nil]; (try simp only [Act.put, nq1, nq2, nq3, nq4, nq5, nq6])
  refine wpS_storeF rfl rfl rfl rfl rfl HS.out HX.out (HG.out 11 (by simp)).1 rowE (.head) (by first | exact EA.arr ‹_› | exact arr_zE) (by first | exact EA.arr ‹_› | exact arr_zE) ?_; intro wz hS9 hX9; have HS := hide hS9; have HX := hide hX9; clear hS9 hX9; (try simp only [Act.put, nq1, nq2, nq3, nq4, nq5, nq6])
  refine wpS_nil ?_
  go_wp2_with fail
  have HS := hide HS.out.drew
  refine wp_region_XE [(7, 9)] [(0, 1), (1, 0), (2, 1), (3, 0), (5, 0), (4, 2), (6, 2)] (.op 8 2 (.nil)) zE 61 (by kernel_rfl) (by kernel_rfl) (by kernel_rfl) (by intro p hp; simp only [List.mem_cons, List.not_mem_nil, or_false] at hp; subst hp <;> exact flOp_of rfl rfl rfl (fun ev x => run_allocR rfl newE ev x)) (fun _ _ _ _ h => h) ?_
  (refine wpX_pure (v := ?_) rfl rfl ?_ ?_; rotate_left; (intro wx; go_simp; try go_bits) <;> (with_reducible rfl)); (try simp only [Act.put, nq1, nq2, nq3, nq4, nq5, nq6])
  refine wpX_loadP rfl rfl rfl rfl HS.out (.tail _ (.tail _ (.tail _ (.tail _ (.tail _ (.head _)))))) rowE (.q3 (EA.arr ‹_›) (EA.arr ‹_›) (EA.arr ‹_›) (EA.arr ‹_›)) ?_; (try simp only [Act.put, nq1, nq2, nq3, nq4, nq5, nq6])
  (refine wpX_pure (v := ?_) rfl rfl ?_ ?_; rotate_left; (intro wx; go_simp; try go_bits) <;> (with_reducible rfl)); (try simp only [Act.put, nq1, nq2, nq3, nq4, nq5, nq6])
  refine wpX_loadP rfl rfl rfl rfl HS.out (.tail _ (.tail _ (.tail _ (.tail _ (.head _))))) rowE (.q3 (EA.arr ‹_›) (EA.arr ‹_›) (EA.arr ‹_›) (EA.arr ‹_›)) ?_; (try simp only [Act.put, nq1, nq2, nq3, nq4, nq5, nq6])
  refine wpX_loadP rfl rfl rfl rfl HS.out (.tail _ (.tail _ (.tail _ (.head _)))) rowE (.all (by first | exact EA.arr ‹_› | exact arr_zE)) ?_; (try simp only [Act.put, nq1, nq2, nq3, nq4, nq5, nq6])
  refine wpX_callF rfl rfl rfl en36_pl rfl (fun x => mulA x ‹_› ‹_›) ?_; rintro xw e wy ⟨z, hz, rfl, hb⟩; refine ⟨_, rfl, hb, ?_⟩; (try simp only [Act.put, nq1, nq2, nq3, nq4, nq5, nq6])
  refine wpX_callF rfl rfl rfl en36_pl rfl (fun x => mulA x ‹_› ‹_›) ?_; rintro xw e wy ⟨z, hz, rfl, hb⟩; refine ⟨_, rfl, hb, ?_⟩; (try simp only [Act.put, nq1, nq2, nq3, nq4, nq5, nq6])
  refine wpX_nil ?_; intro G xz hx0 hx hF; have hS9 := HS.out.floats hx0 hF _ (by decide) (fun _ h => h); simp only [List.map_cons, List.map_nil, List.cons_append, List.nil_append] at hS9; have HS := hide hS9; have HX := hide hx0; have HG := hide hF.at_; clear hS9 hF hx0 hx; simp only [putsE, List.foldl_cons, List.foldl_nil]; (try simp only [Act.put, nq1, nq2, nq3, nq4, nq5, nq6])
  refine wpS_storeF rfl rfl rfl rfl rfl HS.out HX.out (HG.out 7 (by simp)).1 rowE (.head) (by first | exact EA.arr ‹_› | exact arr_zE) (by first | exact EA.arr ‹_› | exact arr_zE) ?_; intro wz hS9 hX9; have HS := hide hS9; have HX := hide hX9; clear hS9 hX9; (try simp only [Act.put, nq1, nq2, nq3, nq4, nq5, nq6])
  refine wpS_nil ?_
  go_wp2_with (first | (go_at_call 83; (with_reducible refine (mulA _ (by assumption) (by assumption)).mono ?_); rintro e wy ⟨z, hz, rfl, hb⟩; try have HS := hide (HS.out.call hb)) | (go_at_call 90; (with_reducible refine (addA _ (by assumption) (by assumption)).mono ?_); rintro e wy ⟨z, hz, rfl, hb⟩; try have HS := hide (HS.out.call hb)) | (go_at_call 88; (with_reducible refine (subA _ (by assumption) (by assumption)).mono ?_); rintro e wy ⟨z, hz, rfl, hb⟩; try have HS := hide (HS.out.call hb)) | (go_at_call 91; (with_reducible refine (negA _ (by assumption)).mono ?_); rintro e wy ⟨z, hz, rfl, hb⟩; try have HS := hide (HS.out.call hb)) | (go_at_call 82; (with_reducible refine (invA _ (by assumption)).mono ?_); rintro e wy ⟨z, hz, rfl, hb⟩; try have HS := hide (HS.out.call hb)) | (refine wl_loadP rfl rfl rfl HS.out (by (repeat first | exact .head _ | apply List.Mem.tail)) (by first | exact rowE | exact rowP | exact rowN | exact rowQ) (by (first | exact .q0 (EA.arr ‹_›) | exact .q1 (EA.arr ‹_›) (EA.arr ‹_›) | exact .q2 (EA.arr ‹_›) (EA.arr ‹_›) (EA.arr ‹_›) | exact .q3 (EA.arr ‹_›) (EA.arr ‹_›) (EA.arr ‹_›) (EA.arr ‹_›) | exact .q0 (NA.arr ‹_›) | exact .q1 (NA.arr ‹_›) (NA.arr ‹_›) | exact .q2 (NA.arr ‹_›) (NA.arr ‹_›) (NA.arr ‹_›) | exact .q3 (NA.arr ‹_›) (NA.arr ‹_›) (NA.arr ‹_›) (NA.arr ‹_›) | exact .all (by (first | exact EA.arr ‹_› | exact NA.arr ‹_› | exact arr_zE | exact arr_zN | exact arr_zP | exact arr_zQ | exact PtN.arr ‹_› | exact PtV.arr ‹_› | exact QtN.arr ‹_› | exact qE ‹_› ‹_› ‹_› ‹_› | exact qN ‹_› ‹_› ‹_› ‹_›)))) ?_; (try simp only [Act.put, nq1, nq2, nq3, nq4, nq5, nq6])) | (refine wl_storeR rfl rfl rfl rfl HS.out (by first | exact rowE | exact rowP | exact rowN | exact rowQ) (by (repeat first | exact .head | apply Upd.tail)) (by (first | exact EA.arr ‹_› | exact NA.arr ‹_› | exact arr_zE | exact arr_zN | exact arr_zP | exact arr_zQ | exact PtN.arr ‹_› | exact PtV.arr ‹_› | exact QtN.arr ‹_› | exact qE ‹_› ‹_› ‹_› ‹_› | exact qN ‹_› ‹_› ‹_› ‹_›)) (by (first | exact EA.arr ‹_› | exact NA.arr ‹_› | exact arr_zE | exact arr_zN | exact arr_zP | exact arr_zQ | exact PtN.arr ‹_› | exact PtV.arr ‹_› | exact QtN.arr ‹_› | exact qE ‹_› ‹_› ‹_› ‹_› | exact qN ‹_› ‹_› ‹_› ‹_›)) ?_; intro wz hS9; have HS := hide hS9; clear hS9; (try simp only [Act.put, nq1, nq2, nq3, nq4, nq5, nq6])) | (refine wl_allocR rfl rfl HS.out (by first | exact newE | exact newP | exact newN | exact newQ) ?_; intro gz wz hS9; have HS := hide hS9; clear hS9; (try simp only [Act.put, nq1, nq2, nq3, nq4, nq5, nq6])) | (refine wl_boxR rfl rfl rfl HS.out ?_; intro gz wz hS9; have HS := hide hS9; clear hS9; (try simp only [Act.put, nq1, nq2, nq3, nq4, nq5, nq6])))
  have HS := hide HS.out.drew
  refine wp_region_XE [(12, 11), (13, 12), (14, 13), (15, 14)] [(0, 0), (1, 0), (3, 0), (4, 0), (6, 0), (7, 0), (9, 0), (10, 0), (2, 2), (5, 2), (8, 2), (11, 2)] (.op 16 2 (.op 17 2 (.op 18 2 (.op 19 2 (.nil))))) zE 61 (by kernel_rfl) (by kernel_rfl) (by kernel_rfl) (by intro p hp; simp only [List.mem_cons, List.not_mem_nil, or_false] at hp; rcases hp with rfl | rfl | rfl | rfl <;> exact flOp_of rfl rfl rfl (fun ev x => run_allocR rfl newE ev x)) (fun _ _ _ _ h => h) ?_
  refine wpX_loadP rfl rfl rfl rfl HS.out (.tail _ (.tail _ (.head _))) rowE (.all (by first | exact EA.arr ‹_› | exact arr_zE)) ?_; (try simp only [Act.put, nq1, nq2, nq3, nq4, nq5, nq6])
  refine wpX_loadP rfl rfl rfl rfl HS.out (.tail _ (.tail _ (.tail _ (.head _)))) rowE (.all (by first | exact EA.arr ‹_› | exact arr_zE)) ?_; (try simp only [Act.put, nq1, nq2, nq3, nq4, nq5, nq6])
  refine wpX_loadP rfl rfl rfl rfl HS.out (.head _) rowE (.all (by first | exact EA.arr ‹_› | exact arr_zE)) ?_; (try simp only [Act.put, nq1, nq2, nq3, nq4, nq5, nq6])
  refine wpX_loadP rfl rfl rfl rfl HS.out (.tail _ (.head _)) rowE (.all (by first | exact EA.arr ‹_› | exact arr_zE)) ?_; (try simp only [Act.put, nq1, nq2, nq3, nq4, nq5, nq6])
  refine wpX_loadP rfl rfl rfl rfl HS.out (.head _) rowE (.all (by first | exact EA.arr ‹_› | exact arr_zE)) ?_; (try simp only [Act.put, nq1, nq2, nq3, nq4, nq5, nq6])
  refine wpX_loadP rfl rfl rfl rfl HS.out (.tail _ (.head _)) rowE (.all (by first | exact EA.arr ‹_› | exact arr_zE)) ?_; (try simp only [Act.put, nq1, nq2, nq3, nq4, nq5, nq6])
  refine wpX_loadP rfl rfl rfl rfl HS.out (.tail _ (.tail _ (.head _))) rowE (.all (by first | exact EA.arr ‹_› | exact arr_zE)) ?_; (try simp only [Act.put, nq1, nq2, nq3, nq4, nq5, nq6])
  refine wpX_loadP rfl rfl rfl rfl HS.out (.tail _ (.tail _ (.tail _ (.head _)))) rowE (.all (by first | exact EA.arr ‹_› | exact arr_zE)) ?_; (try simp only [Act.put, nq1, nq2, nq3, nq4, nq5, nq6])
  refine wpX_callF rfl rfl rfl en52_pl rfl (fun x => subA x ‹_› ‹_›) ?_; rintro xw e wy ⟨z, hz, rfl, hb⟩; refine ⟨_, rfl, hb, ?_⟩; (try simp only [Act.put, nq1, nq2, nq3, nq4, nq5, nq6])
  refine wpX_callF rfl rfl rfl en52_pl rfl (fun x => subA x ‹_› ‹_›) ?_; rintro xw e wy ⟨z, hz, rfl, hb⟩; refine ⟨_, rfl, hb, ?_⟩; (try simp only [Act.put, nq1, nq2, nq3, nq4, nq5, nq6])
  refine wpX_callF rfl rfl rfl en53_pl rfl (fun x => addA x ‹_› ‹_›) ?_; rintro xw e wy ⟨z, hz, rfl, hb⟩; refine ⟨_, rfl, hb, ?_⟩; (try simp only [Act.put, nq1, nq2, nq3, nq4, nq5, nq6])
  refine wpX_callF rfl rfl rfl en53_pl rfl (fun x => addA x ‹_› ‹_›) ?_; rintro xw e wy ⟨z, hz, rfl, hb⟩; refine ⟨_, rfl, hb, ?_⟩; (try simp only [Act.put, nq1, nq2, nq3, nq4, nq5, nq6])
  refine wpX_nil ?_; intro G xz hx0 hx hF; have hS9 := HS.out.floats hx0 hF _ (by decide) (fun _ h => h); simp only [List.map_cons, List.map_nil, List.cons_append, List.nil_append] at hS9; have HS := hide hS9; have HX := hide hx0; have HG := hide hF.at_; clear hS9 hF hx0 hx; simp only [putsE, List.foldl_cons, List.foldl_nil]; (try simp only [Act.put, nq1, nq2, nq3, nq4, nq5, nq6])
  refine wpS_storeF rfl rfl rfl rfl rfl HS.out HX.out (HG.out 12 (by simp)).1 rowE (.head) (by first | exact EA.arr ‹_› | exact arr_zE) (by first | exact EA.arr ‹_› | exact arr_zE) ?_; intro wz hS9 hX9; have HS := hide hS9; have HX := hide hX9; clear hS9 hX9; (try simp only [Act.put, nq1, nq2, nq3, nq4, nq5, nq6])
  refine wpS_storeF rfl rfl rfl rfl rfl HS.out HX.out (HG.out 13 (by simp)).1 rowE (.tail (.head)) (by first | exact EA.arr ‹_› | exact arr_zE) (by first | exact EA.arr ‹_› | exact arr_zE) ?_; intro wz hS9 hX9; have HS := hide hS9; have HX := hide hX9; clear hS9 hX9; (try simp only [Act.put, nq1, nq2, nq3, nq4, nq5, nq6])
  refine wpS_storeF rfl rfl rfl rfl rfl HS.out HX.out (HG.out 14 (by simp)).1 rowE (.tail (.tail (.head))) (by first | exact EA.arr ‹_› | exact arr_zE) (by first | exact EA.arr ‹_› | exact arr_zE) ?_; intro wz hS9 hX9; have HS := hide hS9; have HX := hide hX9; clear hS9 hX9; (try simp only [Act.put, nq1, nq2, nq3, nq4, nq5, nq6])
  refine wpS_storeF rfl rfl rfl rfl rfl HS.out HX.out (HG.out 15 (by simp)).1 rowE (.tail (.tail (.tail (.head)))) (by first | exact EA.arr ‹_› | exact arr_zE) (by first | exact EA.arr ‹_› | exact arr_zE) ?_; intro wz hS9 hX9; have HS := hide hS9; have HX := hide hX9; clear hS9 hX9; (try simp only [Act.put, nq1, nq2, nq3, nq4, nq5, nq6])
  refine wpS_nil ?_
  go_wp2_with fail
  have HS := hide HS.out.drew
  refine wp_region_T [(0, 0), (1, 0), (3, 0), (4, 0), (6, 0), (7, 0), (9, 0), (10, 0), (2, 2), (5, 2), (8, 2), (11, 2), (12, 1), (13, 3)] (by kernel_rfl) (by kernel_rfl) (fun _ _ _ _ h => h) ?_
  refine wpT_loadP rfl rfl rfl rfl HS.out (.head _) rowE (.all (by first | exact EA.arr ‹_› | exact arr_zE)) ?_; (try simp only [Act.put, nq1, nq2, nq3, nq4, nq5, nq6])
  refine wpT_loadP rfl rfl rfl rfl HS.out (.tail _ (.head _)) rowE (.all (by first | exact EA.arr ‹_› | exact arr_zE)) ?_; (try simp only [Act.put, nq1, nq2, nq3, nq4, nq5, nq6])
  refine wpT_loadP rfl rfl rfl rfl HS.out (.tail _ (.tail _ (.head _))) rowE (.all (by first | exact EA.arr ‹_› | exact arr_zE)) ?_; (try simp only [Act.put, nq1, nq2, nq3, nq4, nq5, nq6])
  refine wpT_loadP rfl rfl rfl rfl HS.out (.tail _ (.tail _ (.tail _ (.head _)))) rowE (.all (by first | exact EA.arr ‹_› | exact arr_zE)) ?_; (try simp only [Act.put, nq1, nq2, nq3, nq4, nq5, nq6])
  refine wpT_loadP rfl rfl rfl rfl HS.out (.tail _ (.head _)) rowE (.all (by first | exact EA.arr ‹_› | exact arr_zE)) ?_; (try simp only [Act.put, nq1, nq2, nq3, nq4, nq5, nq6])
  refine wpT_loadP rfl rfl rfl rfl HS.out (.tail _ (.tail _ (.head _))) rowE (.all (by first | exact EA.arr ‹_› | exact arr_zE)) ?_; (try simp only [Act.put, nq1, nq2, nq3, nq4, nq5, nq6])
  refine wpT_loadP rfl rfl rfl rfl HS.out (.head _) rowE (.all (by first | exact EA.arr ‹_› | exact arr_zE)) ?_; (try simp only [Act.put, nq1, nq2, nq3, nq4, nq5, nq6])
  refine wpT_loadP rfl rfl rfl rfl HS.out (.tail _ (.tail _ (.tail _ (.head _)))) rowE (.all (by first | exact EA.arr ‹_› | exact arr_zE)) ?_; (try simp only [Act.put, nq1, nq2, nq3, nq4, nq5, nq6])
  refine wpT_callF rfl rfl rfl en36_pl rfl (mulA _ ‹_› ‹_›) ?_; rintro e wy ⟨z, hz, rfl, hb⟩; refine ⟨_, rfl, hb, ?_⟩; have HS := hide (HS.out.call hb); (try simp only [Act.put, nq1, nq2, nq3, nq4, nq5, nq6])
  refine wpT_callF rfl rfl rfl en36_pl rfl (mulA _ ‹_› ‹_›) ?_; rintro e wy ⟨z, hz, rfl, hb⟩; refine ⟨_, rfl, hb, ?_⟩; have HS := hide (HS.out.call hb); (try simp only [Act.put, nq1, nq2, nq3, nq4, nq5, nq6])
  refine wpT_callF rfl rfl rfl en36_pl rfl (mulA _ ‹_› ‹_›) ?_; rintro e wy ⟨z, hz, rfl, hb⟩; refine ⟨_, rfl, hb, ?_⟩; have HS := hide (HS.out.call hb); (try simp only [Act.put, nq1, nq2, nq3, nq4, nq5, nq6])
  refine wpT_callF rfl rfl rfl en36_pl rfl (mulA _ ‹_› ‹_›) ?_; rintro e wy ⟨z, hz, rfl, hb⟩; refine ⟨_, rfl, hb, ?_⟩; have HS := hide (HS.out.call hb); (try simp only [Act.put, nq1, nq2, nq3, nq4, nq5, nq6])
  refine wpT_pure rfl rfl (fun x => run_build4 rfl rfl rfl rfl rfl buildP (exE ‹_›) (exE ‹_›) (exE ‹_›) (exE ‹_›) x) ?_; (try simp only [Act.put, nq1, nq2, nq3, nq4, nq5, nq6])
  refine wpT_late rfl rfl ?_; intro K hK; refine wp_storeR rfl rfl rfl HS.out rowP (.tail (.tail (.tail (.tail (.tail (.tail (.tail (.tail (.head))))))))) (by first | exact arr_zP | exact PtN.arr ‹_› | exact PtV.arr ‹_› | exact qE ‹_› ‹_› ‹_› ‹_›) (by first | exact arr_zP | exact PtN.arr ‹_› | exact PtV.arr ‹_› | exact qE ‹_› ‹_› ‹_› ‹_›) ?_; intro wz hS9; have HS := hide hS9; clear hS9; refine hK _ _ ?_; (try simp only [Act.put, nq1, nq2, nq3, nq4, nq5, nq6])
  refine wpT_nil ?_
  go_wp2_with fail
  refine bodyPost_ret (results_cell_row rfl _ _ _ _ _ _ _ rfl (HS.out.heapM (by (repeat first | exact .head _ | apply List.Mem.tail))) Tryz.underlying63 rfl (by first | (rw [(EA.arr ‹_›).size]; kernel_rfl) | (rw [(NA.arr ‹_›).size]; kernel_rfl) | (rw [(qE ‹_› ‹_› ‹_› ‹_›).size]; kernel_rfl) | (rw [(qN ‹_› ‹_› ‹_› ‹_›).size]; kernel_rfl) | (rw [(PtN.arr ‹_›).size]; kernel_rfl) | (rw [(PtV.arr ‹_›).size]; kernel_rfl) | (rw [(QtN.arr ‹_›).size]; kernel_rfl))) rfl ?_
  refine ⟨_, _, _, _, ?_, ?_, ?_, ?_, rfl, HS.out.below⟩ <;> assumption
end Go.Proofs.YtnohmgpmmhlloaaGreatDoor

namespace Go.Proofs.YtnohmgpmmhlloaaGreatDoor
open Go.RowKit
set_option linter.unusedSimpArgs false

structure PtN (v : Array Value) (P : Ed) : Prop where
  ex : ∃ A a b c d, v = quad a b c d ∧ EA a A.X ∧ EA b A.Y ∧ EA c A.Z ∧ EA d A.T ∧ Rp A P
structure PtV (v : Array Value) (P : Ed) : Prop where
  ex : ∃ A a b c d, v = quad a b c d ∧ EA a A.X ∧ EA b A.Y ∧ EA c A.Z ∧ EA d A.T ∧ (Rp A P ∨ (A.Z = 0 ∧ P = .zero))
theorem PtN.v {v : Array Value} {P : Ed} (h : PtN v P) : PtV v P := by
  obtain ⟨A, a, b, c, d, h1, h2, h3, h4, h5, h6⟩ := h.ex
  exact ⟨A, a, b, c, d, h1, h2, h3, h4, h5, .inl h6⟩
theorem PtV.arr {v : Array Value} {P : Ed} (h : PtV v P) : Arr 20 v := by
  obtain ⟨A, a, b, c, d, rfl, h2, h3, h4, h5, _⟩ := h.ex
  exact quad_arr h2.arr h3.arr h4.arr h5.arr rfl
theorem PtN.arr {v : Array Value} {P : Ed} (h : PtN v P) : Arr 20 v := h.v.arr
def ResV (w : World) (P : Ed) (e : Ending) (w' : World) : Prop := ∃ v, PtN v P ∧ e = .returned (.agg v) ∧ Below w.heap.size w w'
theorem ResP.v {w : World} {A : Pj} {P : Ed} {e : Ending} {w' : World} (h : ResP w A e w') (hr : Rp A P) : ResV w P e w' := by
  obtain ⟨a, b, c, d, h1, h2, h3, h4, h5, h6⟩ := h
  exact ⟨_, ⟨A, a, b, c, d, rfl, h1, h2, h3, h4, hr⟩, h5, h6⟩
theorem plusP {u v k : Array Value} {P Q : Ed} (w : World) (hu : PtN u P) (hv : PtN v Q) (hk : EA k dF) : Calls Tryz.prog 80 #[.agg u, .agg v, .agg k] w (ResV w (P.add Q)) := by
  obtain ⟨⟨X, Y, Z, T⟩, a, b, c, d, rfl, h1, h2, h3, h4, h5⟩ := hu.ex
  obtain ⟨⟨X', Y', Z', T'⟩, a', b', c', d', rfl, g1, g2, g3, g4, g5⟩ := hv.ex
  exact (plus_any w h1 h2 h3 h4 g1 g2 g3 g4 hk).mono fun e w' h => h.v (rp_plus h5 g5)
set_option maxRecDepth 100000 in
set_option maxHeartbeats 1600000 in
theorem zeroP (w : World) : Calls Tryz.prog 81 #[] w (ResV w .zero) := by
  have hz0 := ea_zero
  have HS := hide (St.init w NoB)
  go_enter Tryz.func81, Tryz.ntmps81
  go_wp2_with (first | (go_at_call 89; (with_reducible refine (small1A _).mono ?_); rintro e wy ⟨z, hz, rfl, hb⟩; try have HS := hide (HS.out.call hb)) | (go_at_call 77; (with_reducible refine (at_any _ (by assumption) (by assumption)).mono ?_); rintro e wy ⟨qa, qb, qc, qd, hqa, hqb, hqc, hqd, rfl, hb⟩; have HS := hide (HS.out.call hb)) | (refine wl_loadP rfl rfl rfl HS.out (by (repeat first | exact .head _ | apply List.Mem.tail)) (by first | exact rowE | exact rowP | exact rowN | exact rowQ) (by (first | exact .q0 (EA.arr ‹_›) | exact .q1 (EA.arr ‹_›) (EA.arr ‹_›) | exact .q2 (EA.arr ‹_›) (EA.arr ‹_›) (EA.arr ‹_›) | exact .q3 (EA.arr ‹_›) (EA.arr ‹_›) (EA.arr ‹_›) (EA.arr ‹_›) | exact .q0 (NA.arr ‹_›) | exact .q1 (NA.arr ‹_›) (NA.arr ‹_›) | exact .q2 (NA.arr ‹_›) (NA.arr ‹_›) (NA.arr ‹_›) | exact .q3 (NA.arr ‹_›) (NA.arr ‹_›) (NA.arr ‹_›) (NA.arr ‹_›) | exact .all (by (first | exact EA.arr ‹_› | exact NA.arr ‹_› | exact arr_zE | exact arr_zN | exact arr_zP | exact arr_zQ | exact PtN.arr ‹_› | exact PtV.arr ‹_› | exact QtN.arr ‹_› | exact qE ‹_› ‹_› ‹_› ‹_› | exact qN ‹_› ‹_› ‹_› ‹_›)))) ?_; (try simp only [Act.put, nq1, nq2, nq3, nq4, nq5, nq6])) | (refine wl_storeR rfl rfl rfl rfl HS.out (by first | exact rowE | exact rowP | exact rowN | exact rowQ) (by (repeat first | exact .head | apply Upd.tail)) (by (first | exact EA.arr ‹_› | exact NA.arr ‹_› | exact arr_zE | exact arr_zN | exact arr_zP | exact arr_zQ | exact PtN.arr ‹_› | exact PtV.arr ‹_› | exact QtN.arr ‹_› | exact qE ‹_› ‹_› ‹_› ‹_› | exact qN ‹_› ‹_› ‹_› ‹_›)) (by (first | exact EA.arr ‹_› | exact NA.arr ‹_› | exact arr_zE | exact arr_zN | exact arr_zP | exact arr_zQ | exact PtN.arr ‹_› | exact PtV.arr ‹_› | exact QtN.arr ‹_› | exact qE ‹_› ‹_› ‹_› ‹_› | exact qN ‹_› ‹_› ‹_› ‹_›)) ?_; intro wz hS9; have HS := hide hS9; clear hS9; (try simp only [Act.put, nq1, nq2, nq3, nq4, nq5, nq6])) | (refine wl_allocR rfl rfl HS.out (by first | exact newE | exact newP | exact newN | exact newQ) ?_; intro gz wz hS9; have HS := hide hS9; clear hS9; (try simp only [Act.put, nq1, nq2, nq3, nq4, nq5, nq6])) | (refine wl_boxR rfl rfl rfl HS.out ?_; intro gz wz hS9; have HS := hide hS9; clear hS9; (try simp only [Act.put, nq1, nq2, nq3, nq4, nq5, nq6])))
  refine bodyPost_ret (results_cell_row rfl _ _ _ _ _ _ _ rfl (HS.out.heapM (by (repeat first | exact .head _ | apply List.Mem.tail))) Tryz.underlying63 rfl (by first | (rw [(EA.arr ‹_›).size]; kernel_rfl) | (rw [(NA.arr ‹_›).size]; kernel_rfl) | (rw [(qE ‹_› ‹_› ‹_› ‹_›).size]; kernel_rfl) | (rw [(qN ‹_› ‹_› ‹_› ‹_›).size]; kernel_rfl) | (rw [(PtN.arr ‹_›).size]; kernel_rfl) | (rw [(PtV.arr ‹_›).size]; kernel_rfl) | (rw [(QtN.arr ‹_›).size]; kernel_rfl))) rfl ?_
  exact ⟨_, ⟨⟨_, _, _, _⟩, _, _, _, _, rfl, hqa, hqb, hqc, hqd, by rw [show ((0 : FK) * 1) = 0 from fl8 0]; exact rp_zero⟩, rfl, HS.out.below⟩
set_option maxRecDepth 100000 in
set_option maxHeartbeats 1600000 in
theorem baseP (w : World) : Calls Tryz.prog 35 #[] w (ResV w Bp) := by
  have HS := hide (St.init w NoB)
  go_enter Tryz.func35, Tryz.ntmps35
  go_wp2_with (first | (go_at_call 78; (with_reducible refine (numX _).mono ?_); rintro e wy ⟨z, hz, rfl, hb⟩; try have HS := hide (HS.out.call hb)) | (go_at_call 78; (with_reducible refine (numY _).mono ?_); rintro e wy ⟨z, hz, rfl, hb⟩; try have HS := hide (HS.out.call hb)) | (go_at_call 77; (with_reducible refine (at_any _ (by assumption) (by assumption)).mono ?_); rintro e wy ⟨qa, qb, qc, qd, hqa, hqb, hqc, hqd, rfl, hb⟩; have HS := hide (HS.out.call hb)) | (refine wl_loadP rfl rfl rfl HS.out (by (repeat first | exact .head _ | apply List.Mem.tail)) (by first | exact rowE | exact rowP | exact rowN | exact rowQ) (by (first | exact .q0 (EA.arr ‹_›) | exact .q1 (EA.arr ‹_›) (EA.arr ‹_›) | exact .q2 (EA.arr ‹_›) (EA.arr ‹_›) (EA.arr ‹_›) | exact .q3 (EA.arr ‹_›) (EA.arr ‹_›) (EA.arr ‹_›) (EA.arr ‹_›) | exact .q0 (NA.arr ‹_›) | exact .q1 (NA.arr ‹_›) (NA.arr ‹_›) | exact .q2 (NA.arr ‹_›) (NA.arr ‹_›) (NA.arr ‹_›) | exact .q3 (NA.arr ‹_›) (NA.arr ‹_›) (NA.arr ‹_›) (NA.arr ‹_›) | exact .all (by (first | exact EA.arr ‹_› | exact NA.arr ‹_› | exact arr_zE | exact arr_zN | exact arr_zP | exact arr_zQ | exact PtN.arr ‹_› | exact PtV.arr ‹_› | exact QtN.arr ‹_› | exact qE ‹_› ‹_› ‹_› ‹_› | exact qN ‹_› ‹_› ‹_› ‹_›)))) ?_; (try simp only [Act.put, nq1, nq2, nq3, nq4, nq5, nq6])) | (refine wl_storeR rfl rfl rfl rfl HS.out (by first | exact rowE | exact rowP | exact rowN | exact rowQ) (by (repeat first | exact .head | apply Upd.tail)) (by (first | exact EA.arr ‹_› | exact NA.arr ‹_› | exact arr_zE | exact arr_zN | exact arr_zP | exact arr_zQ | exact PtN.arr ‹_› | exact PtV.arr ‹_› | exact QtN.arr ‹_› | exact qE ‹_› ‹_› ‹_› ‹_› | exact qN ‹_› ‹_› ‹_› ‹_›)) (by (first | exact EA.arr ‹_› | exact NA.arr ‹_› | exact arr_zE | exact arr_zN | exact arr_zP | exact arr_zQ | exact PtN.arr ‹_› | exact PtV.arr ‹_› | exact QtN.arr ‹_› | exact qE ‹_› ‹_› ‹_› ‹_› | exact qN ‹_› ‹_› ‹_› ‹_›)) ?_; intro wz hS9; have HS := hide hS9; clear hS9; (try simp only [Act.put, nq1, nq2, nq3, nq4, nq5, nq6])) | (refine wl_allocR rfl rfl HS.out (by first | exact newE | exact newP | exact newN | exact newQ) ?_; intro gz wz hS9; have HS := hide hS9; clear hS9; (try simp only [Act.put, nq1, nq2, nq3, nq4, nq5, nq6])) | (refine wl_boxR rfl rfl rfl HS.out ?_; intro gz wz hS9; have HS := hide hS9; clear hS9; (try simp only [Act.put, nq1, nq2, nq3, nq4, nq5, nq6])))
  refine bodyPost_ret (results_cell_row rfl _ _ _ _ _ _ _ rfl (HS.out.heapM (by (repeat first | exact .head _ | apply List.Mem.tail))) Tryz.underlying63 rfl (by first | (rw [(EA.arr ‹_›).size]; kernel_rfl) | (rw [(NA.arr ‹_›).size]; kernel_rfl) | (rw [(qE ‹_› ‹_› ‹_› ‹_›).size]; kernel_rfl) | (rw [(qN ‹_› ‹_› ‹_› ‹_›).size]; kernel_rfl) | (rw [(PtN.arr ‹_›).size]; kernel_rfl) | (rw [(PtV.arr ‹_›).size]; kernel_rfl) | (rw [(QtN.arr ‹_›).size]; kernel_rfl))) rfl ?_
  exact ⟨_, ⟨⟨_, _, _, _⟩, _, _, _, _, rfl, hqa, hqb, hqc, hqd, rp_of Bp⟩, rfl, HS.out.below⟩
set_option maxRecDepth 100000 in
set_option maxHeartbeats 1600000 in
theorem wholeP {v : Array Value} {P : Ed} (w : World) (hv : PtV v P) : Calls Tryz.prog 79 #[.agg v] w (ResV w P) := by
  have hN := hv
  obtain ⟨⟨X, Y, Z, T⟩, a, b, c, d, rfl, h1, h2, h3, h4, h5⟩ := hv.ex
  have HS := hide (St.init w NoB)
  have HZ := hide (fun W => zeroP W)
  by_cases hz : Z = 0
  · have hP : P = .zero := by
      rcases h5 with h | h
      · exact absurd hz h.z
      · exact h.2
    subst hP
    have HC := hide (fun W => zeroA W h3)
    rw [decide_eq_true hz] at HC
    clear h5 hz
    go_enter Tryz.func79, Tryz.ntmps79
    go_wp2_with (first | (go_at_call 121; (with_reducible refine (HC.out _).mono ?_); rintro e wy ⟨rfl, hb⟩; have HS := hide (HS.out.call hb)) | (go_at_call 81; (with_reducible refine (HZ.out _).mono ?_); rintro e wy ⟨z, hz, rfl, hb⟩; try have HS := hide (HS.out.call hb)) | (refine wl_loadP rfl rfl rfl HS.out (by (repeat first | exact .head _ | apply List.Mem.tail)) (by first | exact rowE | exact rowP | exact rowN | exact rowQ) (by (first | exact .q0 (EA.arr ‹_›) | exact .q1 (EA.arr ‹_›) (EA.arr ‹_›) | exact .q2 (EA.arr ‹_›) (EA.arr ‹_›) (EA.arr ‹_›) | exact .q3 (EA.arr ‹_›) (EA.arr ‹_›) (EA.arr ‹_›) (EA.arr ‹_›) | exact .q0 (NA.arr ‹_›) | exact .q1 (NA.arr ‹_›) (NA.arr ‹_›) | exact .q2 (NA.arr ‹_›) (NA.arr ‹_›) (NA.arr ‹_›) | exact .q3 (NA.arr ‹_›) (NA.arr ‹_›) (NA.arr ‹_›) (NA.arr ‹_›) | exact .all (by (first | exact EA.arr ‹_› | exact NA.arr ‹_› | exact arr_zE | exact arr_zN | exact arr_zP | exact arr_zQ | exact PtN.arr ‹_› | exact PtV.arr ‹_› | exact QtN.arr ‹_› | exact qE ‹_› ‹_› ‹_› ‹_› | exact qN ‹_› ‹_› ‹_› ‹_›)))) ?_; (try simp only [Act.put, nq1, nq2, nq3, nq4, nq5, nq6])) | (refine wl_storeR rfl rfl rfl rfl HS.out (by first | exact rowE | exact rowP | exact rowN | exact rowQ) (by (repeat first | exact .head | apply Upd.tail)) (by (first | exact EA.arr ‹_› | exact NA.arr ‹_› | exact arr_zE | exact arr_zN | exact arr_zP | exact arr_zQ | exact PtN.arr ‹_› | exact PtV.arr ‹_› | exact QtN.arr ‹_› | exact qE ‹_› ‹_› ‹_› ‹_› | exact qN ‹_› ‹_› ‹_› ‹_›)) (by (first | exact EA.arr ‹_› | exact NA.arr ‹_› | exact arr_zE | exact arr_zN | exact arr_zP | exact arr_zQ | exact PtN.arr ‹_› | exact PtV.arr ‹_› | exact QtN.arr ‹_› | exact qE ‹_› ‹_› ‹_› ‹_› | exact qN ‹_› ‹_› ‹_› ‹_›)) ?_; intro wz hS9; have HS := hide hS9; clear hS9; (try simp only [Act.put, nq1, nq2, nq3, nq4, nq5, nq6])) | (refine wl_allocR rfl rfl HS.out (by first | exact newE | exact newP | exact newN | exact newQ) ?_; intro gz wz hS9; have HS := hide hS9; clear hS9; (try simp only [Act.put, nq1, nq2, nq3, nq4, nq5, nq6])) | (refine wl_boxR rfl rfl rfl HS.out ?_; intro gz wz hS9; have HS := hide hS9; clear hS9; (try simp only [Act.put, nq1, nq2, nq3, nq4, nq5, nq6])))
    refine bodyPost_ret (results_cell_row rfl _ _ _ _ _ _ _ rfl (HS.out.heapM (by (repeat first | exact .head _ | apply List.Mem.tail))) Tryz.underlying63 rfl (by first | (rw [(EA.arr ‹_›).size]; kernel_rfl) | (rw [(NA.arr ‹_›).size]; kernel_rfl) | (rw [(qE ‹_› ‹_› ‹_› ‹_›).size]; kernel_rfl) | (rw [(qN ‹_› ‹_› ‹_› ‹_›).size]; kernel_rfl) | (rw [(PtN.arr ‹_›).size]; kernel_rfl) | (rw [(PtV.arr ‹_›).size]; kernel_rfl) | (rw [(QtN.arr ‹_›).size]; kernel_rfl))) rfl ?_
    exact ⟨_, by assumption, rfl, HS.out.below⟩
  · have hr : Rp ⟨X, Y, Z, T⟩ P := by
      rcases h5 with h | h
      · exact h
      · exact absurd h.1 hz
    have HC := hide (fun W => zeroA W h3)
    rw [decide_eq_false hz] at HC
    clear h5
    go_enter Tryz.func79, Tryz.ntmps79
    go_wp2_with (first | (go_at_call 121; (with_reducible refine (HC.out _).mono ?_); rintro e wy ⟨rfl, hb⟩; have HS := hide (HS.out.call hb)) | (refine wl_loadP rfl rfl rfl HS.out (by (repeat first | exact .head _ | apply List.Mem.tail)) (by first | exact rowE | exact rowP | exact rowN | exact rowQ) (by (first | exact .q0 (EA.arr ‹_›) | exact .q1 (EA.arr ‹_›) (EA.arr ‹_›) | exact .q2 (EA.arr ‹_›) (EA.arr ‹_›) (EA.arr ‹_›) | exact .q3 (EA.arr ‹_›) (EA.arr ‹_›) (EA.arr ‹_›) (EA.arr ‹_›) | exact .q0 (NA.arr ‹_›) | exact .q1 (NA.arr ‹_›) (NA.arr ‹_›) | exact .q2 (NA.arr ‹_›) (NA.arr ‹_›) (NA.arr ‹_›) | exact .q3 (NA.arr ‹_›) (NA.arr ‹_›) (NA.arr ‹_›) (NA.arr ‹_›) | exact .all (by (first | exact EA.arr ‹_› | exact NA.arr ‹_› | exact arr_zE | exact arr_zN | exact arr_zP | exact arr_zQ | exact PtN.arr ‹_› | exact PtV.arr ‹_› | exact QtN.arr ‹_› | exact qE ‹_› ‹_› ‹_› ‹_› | exact qN ‹_› ‹_› ‹_› ‹_›)))) ?_; (try simp only [Act.put, nq1, nq2, nq3, nq4, nq5, nq6])) | (refine wl_storeR rfl rfl rfl rfl HS.out (by first | exact rowE | exact rowP | exact rowN | exact rowQ) (by (repeat first | exact .head | apply Upd.tail)) (by (first | exact EA.arr ‹_› | exact NA.arr ‹_› | exact arr_zE | exact arr_zN | exact arr_zP | exact arr_zQ | exact PtN.arr ‹_› | exact PtV.arr ‹_› | exact QtN.arr ‹_› | exact qE ‹_› ‹_› ‹_› ‹_› | exact qN ‹_› ‹_› ‹_› ‹_›)) (by (first | exact EA.arr ‹_› | exact NA.arr ‹_› | exact arr_zE | exact arr_zN | exact arr_zP | exact arr_zQ | exact PtN.arr ‹_› | exact PtV.arr ‹_› | exact QtN.arr ‹_› | exact qE ‹_› ‹_› ‹_› ‹_› | exact qN ‹_› ‹_› ‹_› ‹_›)) ?_; intro wz hS9; have HS := hide hS9; clear hS9; (try simp only [Act.put, nq1, nq2, nq3, nq4, nq5, nq6])) | (refine wl_allocR rfl rfl HS.out (by first | exact newE | exact newP | exact newN | exact newQ) ?_; intro gz wz hS9; have HS := hide hS9; clear hS9; (try simp only [Act.put, nq1, nq2, nq3, nq4, nq5, nq6])) | (refine wl_boxR rfl rfl rfl HS.out ?_; intro gz wz hS9; have HS := hide hS9; clear hS9; (try simp only [Act.put, nq1, nq2, nq3, nq4, nq5, nq6])))
    refine bodyPost_ret (results_cell_row rfl _ _ _ _ _ _ _ rfl (HS.out.heapM (by (repeat first | exact .head _ | apply List.Mem.tail))) Tryz.underlying63 rfl (by first | (rw [(EA.arr ‹_›).size]; kernel_rfl) | (rw [(NA.arr ‹_›).size]; kernel_rfl) | (rw [(qE ‹_› ‹_› ‹_› ‹_›).size]; kernel_rfl) | (rw [(qN ‹_› ‹_› ‹_› ‹_›).size]; kernel_rfl) | (rw [(PtN.arr ‹_›).size]; kernel_rfl) | (rw [(PtV.arr ‹_›).size]; kernel_rfl) | (rw [(QtN.arr ‹_›).size]; kernel_rfl))) rfl ?_
    exact ⟨_, ⟨⟨X, Y, Z, T⟩, _, _, _, _, rfl, h1, h2, h3, h4, hr⟩, rfl, HS.out.below⟩
theorem enWh (args : Array Value) (w : World) : (callFunc 79 args).run Tryz.prog w = .ok (.enter 79 args) w := by kernel_rfl
theorem en29_ad (args : Array Value) (w : World) : (callFunc 78 args).run Tryz.prog w = .ok (.enter 78 args) w := by kernel_rfl
theorem en31_ad (args : Array Value) (w : World) : (callFunc 80 args).run Tryz.prog w = .ok (.enter 80 args) w := by kernel_rfl
theorem en45_ng (args : Array Value) (w : World) : (callFunc 91 args).run Tryz.prog w = .ok (.enter 91 args) w := by kernel_rfl
set_option maxRecDepth 100000 in
set_option maxHeartbeats 1600000 in
theorem addP {u v : Array Value} {P Q : Ed} (w : World) (hu : PtV u P) (hv : PtV v Q) : Calls Tryz.prog 41 #[.agg u, .agg v] w (ResV w (P.add Q)) := by
  have HS := hide (St.init w NoB)
  go_enter Tryz.func41, Tryz.ntmps41
  go_wp2_with (first | (refine wl_loadP rfl rfl rfl HS.out (by (repeat first | exact .head _ | apply List.Mem.tail)) (by first | exact rowE | exact rowP | exact rowN | exact rowQ) (by (first | exact .q0 (EA.arr ‹_›) | exact .q1 (EA.arr ‹_›) (EA.arr ‹_›) | exact .q2 (EA.arr ‹_›) (EA.arr ‹_›) (EA.arr ‹_›) | exact .q3 (EA.arr ‹_›) (EA.arr ‹_›) (EA.arr ‹_›) (EA.arr ‹_›) | exact .q0 (NA.arr ‹_›) | exact .q1 (NA.arr ‹_›) (NA.arr ‹_›) | exact .q2 (NA.arr ‹_›) (NA.arr ‹_›) (NA.arr ‹_›) | exact .q3 (NA.arr ‹_›) (NA.arr ‹_›) (NA.arr ‹_›) (NA.arr ‹_›) | exact .all (by (first | exact EA.arr ‹_› | exact NA.arr ‹_› | exact arr_zE | exact arr_zN | exact arr_zP | exact arr_zQ | exact PtN.arr ‹_› | exact PtV.arr ‹_› | exact QtN.arr ‹_› | exact qE ‹_› ‹_› ‹_› ‹_› | exact qN ‹_› ‹_› ‹_› ‹_›)))) ?_; (try simp only [Act.put, nq1, nq2, nq3, nq4, nq5, nq6])) | (refine wl_storeR rfl rfl rfl rfl HS.out (by first | exact rowE | exact rowP | exact rowN | exact rowQ) (by (repeat first | exact .head | apply Upd.tail)) (by (first | exact EA.arr ‹_› | exact NA.arr ‹_› | exact arr_zE | exact arr_zN | exact arr_zP | exact arr_zQ | exact PtN.arr ‹_› | exact PtV.arr ‹_› | exact QtN.arr ‹_› | exact qE ‹_› ‹_› ‹_› ‹_› | exact qN ‹_› ‹_› ‹_› ‹_›)) (by (first | exact EA.arr ‹_› | exact NA.arr ‹_› | exact arr_zE | exact arr_zN | exact arr_zP | exact arr_zQ | exact PtN.arr ‹_› | exact PtV.arr ‹_› | exact QtN.arr ‹_› | exact qE ‹_› ‹_› ‹_› ‹_› | exact qN ‹_› ‹_› ‹_› ‹_›)) ?_; intro wz hS9; have HS := hide hS9; clear hS9; (try simp only [Act.put, nq1, nq2, nq3, nq4, nq5, nq6])) | (refine wl_allocR rfl rfl HS.out (by first | exact newE | exact newP | exact newN | exact newQ) ?_; intro gz wz hS9; have HS := hide hS9; clear hS9; (try simp only [Act.put, nq1, nq2, nq3, nq4, nq5, nq6])) | (refine wl_boxR rfl rfl rfl HS.out ?_; intro gz wz hS9; have HS := hide hS9; clear hS9; (try simp only [Act.put, nq1, nq2, nq3, nq4, nq5, nq6])))
  have HS := hide HS.out.drew
  have HX := hide (From.refl wz.drew)
  refine wp_region_S (.two 0 2 (.two 1 2 (.op 2 2 (.op 3 2 (.op 4 3 (.op 5 4 (.nil))))) (.op 1 2 (.op 3 2 (.op 4 3 (.op 5 4 (.nil)))))) (.op 0 2 (.op 1 2 (.op 3 2 (.op 4 3 (.op 5 4 (.nil))))))) (by kernel_rfl) (by kernel_rfl) (fun _ _ _ _ h => h) ?_
  refine wpS_two ?_ ?_
  · refine wpS_call rfl rfl ?_; intro K hK; refine wp_loadP rfl rfl HS.out (.tail _ (.tail _ (.head _))) (.all (by (first | exact EA.arr ‹_› | exact NA.arr ‹_› | exact arr_zE | exact arr_zN | exact arr_zP | exact arr_zQ | exact PtN.arr ‹_› | exact PtV.arr ‹_› | exact QtN.arr ‹_› | exact qE ‹_› ‹_› ‹_› ‹_› | exact qN ‹_› ‹_› ‹_› ‹_›))) rowP ?_; refine hK _ _ (fromT_mk HX.out ?_); (try simp only [Act.put, nq1, nq2, nq3, nq4, nq5, nq6])
    refine wpS_two ?_ ?_
    · refine wpS_call rfl rfl ?_; intro K hK; refine wp_call rfl enWh rfl (wholeP _ (by assumption)) ?_; rintro e wy ⟨z, hz, rfl, hb⟩; refine ⟨_, rfl, ?_⟩; have HS := hide (HS.out.call hb); have HX := hide (HX.out.trans (hb.mono HX.out.size)); refine hK _ _ (fromT_mk HX.out ?_); (try simp only [Act.put, nq1, nq2, nq3, nq4, nq5, nq6])
      refine wpS_call rfl rfl ?_; intro K hK; refine wp_loadP rfl rfl HS.out (.tail _ (.head _)) (.all (by (first | exact EA.arr ‹_› | exact NA.arr ‹_› | exact arr_zE | exact arr_zN | exact arr_zP | exact arr_zQ | exact PtN.arr ‹_› | exact PtV.arr ‹_› | exact QtN.arr ‹_› | exact qE ‹_› ‹_› ‹_› ‹_› | exact qN ‹_› ‹_› ‹_› ‹_›))) rowP ?_; refine hK _ _ (fromT_mk HX.out ?_); (try simp only [Act.put, nq1, nq2, nq3, nq4, nq5, nq6])
      refine wpS_call rfl rfl ?_; intro K hK; refine wp_call rfl enWh rfl (wholeP _ (by assumption)) ?_; rintro e wy ⟨z, hz, rfl, hb⟩; refine ⟨_, rfl, ?_⟩; have HS := hide (HS.out.call hb); have HX := hide (HX.out.trans (hb.mono HX.out.size)); refine hK _ _ (fromT_mk HX.out ?_); (try simp only [Act.put, nq1, nq2, nq3, nq4, nq5, nq6])
      refine wpS_late rfl rfl ?_; intro K hK; refine wp_storeR rfl rfl rfl HS.out rowP (.tail (.tail (.head))) (by (first | exact EA.arr ‹_› | exact NA.arr ‹_› | exact arr_zE | exact arr_zN | exact arr_zP | exact arr_zQ | exact PtN.arr ‹_› | exact PtV.arr ‹_› | exact QtN.arr ‹_› | exact qE ‹_› ‹_› ‹_› ‹_› | exact qN ‹_› ‹_› ‹_› ‹_›)) (by (first | exact EA.arr ‹_› | exact NA.arr ‹_› | exact arr_zE | exact arr_zN | exact arr_zP | exact arr_zQ | exact PtN.arr ‹_› | exact PtV.arr ‹_› | exact QtN.arr ‹_› | exact qE ‹_› ‹_› ‹_› ‹_› | exact qN ‹_› ‹_› ‹_› ‹_›)) ?_; intro wz hS9; have HS := hide hS9; clear hS9; refine hK _ _ ?_; (try simp only [Act.put, nq1, nq2, nq3, nq4, nq5, nq6])
      refine wpS_any rfl rfl ?_; intro K hK; refine wp_storeR rfl rfl rfl HS.out rowP (.tail (.head)) (by (first | exact EA.arr ‹_› | exact NA.arr ‹_› | exact arr_zE | exact arr_zN | exact arr_zP | exact arr_zQ | exact PtN.arr ‹_› | exact PtV.arr ‹_› | exact QtN.arr ‹_› | exact qE ‹_› ‹_› ‹_› ‹_› | exact qN ‹_› ‹_› ‹_› ‹_›)) (by (first | exact EA.arr ‹_› | exact NA.arr ‹_› | exact arr_zE | exact arr_zN | exact arr_zP | exact arr_zQ | exact PtN.arr ‹_› | exact PtV.arr ‹_› | exact QtN.arr ‹_› | exact qE ‹_› ‹_› ‹_› ‹_› | exact qN ‹_› ‹_› ‹_› ‹_›)) ?_; intro wz hS9; have HS := hide hS9; clear hS9; refine hK _ _ ?_; (try simp only [Act.put, nq1, nq2, nq3, nq4, nq5, nq6])
      refine wpS_nil ?_
      go_wp2_with fail
      have HS := hide HS.out.drew
      refine wp_region_T [(0, 0), (1, 0), (2, 2), (3, 2), (4, 3)] (by kernel_rfl) (by kernel_rfl) (fun _ _ _ _ h => h) ?_
      refine wpT_loadP rfl rfl rfl rfl HS.out (.tail _ (.tail _ (.head _))) rowP (.all (by first | exact arr_zP | exact PtN.arr ‹_› | exact PtV.arr ‹_› | exact qE ‹_› ‹_› ‹_› ‹_›)) ?_; (try simp only [Act.put, nq1, nq2, nq3, nq4, nq5, nq6])
      refine wpT_loadP rfl rfl rfl rfl HS.out (.tail _ (.head _)) rowP (.all (by first | exact arr_zP | exact PtN.arr ‹_› | exact PtV.arr ‹_› | exact qE ‹_› ‹_› ‹_› ‹_›)) ?_; (try simp only [Act.put, nq1, nq2, nq3, nq4, nq5, nq6])
      refine wpT_callF rfl rfl rfl en29_ad rfl (numD _) ?_; rintro e wy ⟨z, hz, rfl, hb⟩; refine ⟨_, rfl, hb, ?_⟩; have HS := hide (HS.out.call hb); (try simp only [Act.put, nq1, nq2, nq3, nq4, nq5, nq6])
      refine wpT_callF rfl rfl rfl en31_ad rfl (plusP _ (by assumption) (by assumption) (by assumption)) ?_; rintro e wy ⟨z, hz, rfl, hb⟩; refine ⟨_, rfl, hb, ?_⟩; have HS := hide (HS.out.call hb); (try simp only [Act.put, nq1, nq2, nq3, nq4, nq5, nq6])
      refine wpT_late rfl rfl ?_; intro K hK; refine wp_storeR rfl rfl rfl HS.out rowP (.head) (by first | exact arr_zP | exact PtN.arr ‹_› | exact PtV.arr ‹_› | exact qE ‹_› ‹_› ‹_› ‹_›) (by first | exact arr_zP | exact PtN.arr ‹_› | exact PtV.arr ‹_› | exact qE ‹_› ‹_› ‹_› ‹_›) ?_; intro wz hS9; have HS := hide hS9; clear hS9; refine hK _ _ ?_; (try simp only [Act.put, nq1, nq2, nq3, nq4, nq5, nq6])
      refine wpT_nil ?_
      go_wp2_with fail
      refine bodyPost_ret (results_cell_row rfl _ _ _ _ _ _ _ rfl (HS.out.heapM (by (repeat first | exact .head _ | apply List.Mem.tail))) Tryz.underlying63 rfl (by first | (rw [(EA.arr ‹_›).size]; kernel_rfl) | (rw [(NA.arr ‹_›).size]; kernel_rfl) | (rw [(qE ‹_› ‹_› ‹_› ‹_›).size]; kernel_rfl) | (rw [(qN ‹_› ‹_› ‹_› ‹_›).size]; kernel_rfl) | (rw [(PtN.arr ‹_›).size]; kernel_rfl) | (rw [(PtV.arr ‹_›).size]; kernel_rfl) | (rw [(QtN.arr ‹_›).size]; kernel_rfl))) rfl ?_
      exact ⟨_, by assumption, rfl, HS.out.below⟩
    · refine wpS_call rfl rfl ?_; intro K hK; refine wp_loadP rfl rfl HS.out (.tail _ (.head _)) (.all (by (first | exact EA.arr ‹_› | exact NA.arr ‹_› | exact arr_zE | exact arr_zN | exact arr_zP | exact arr_zQ | exact PtN.arr ‹_› | exact PtV.arr ‹_› | exact QtN.arr ‹_› | exact qE ‹_› ‹_› ‹_› ‹_› | exact qN ‹_› ‹_› ‹_› ‹_›))) rowP ?_; refine hK _ _ (fromT_mk HX.out ?_); (try simp only [Act.put, nq1, nq2, nq3, nq4, nq5, nq6])
      refine wpS_call rfl rfl ?_; intro K hK; refine wp_call rfl enWh rfl (wholeP _ (by assumption)) ?_; rintro e wy ⟨z, hz, rfl, hb⟩; refine ⟨_, rfl, ?_⟩; have HS := hide (HS.out.call hb); have HX := hide (HX.out.trans (hb.mono HX.out.size)); refine hK _ _ (fromT_mk HX.out ?_); (try simp only [Act.put, nq1, nq2, nq3, nq4, nq5, nq6])
      refine wpS_call rfl rfl ?_; intro K hK; refine wp_call rfl enWh rfl (wholeP _ (by assumption)) ?_; rintro e wy ⟨z, hz, rfl, hb⟩; refine ⟨_, rfl, ?_⟩; have HS := hide (HS.out.call hb); have HX := hide (HX.out.trans (hb.mono HX.out.size)); refine hK _ _ (fromT_mk HX.out ?_); (try simp only [Act.put, nq1, nq2, nq3, nq4, nq5, nq6])
      refine wpS_late rfl rfl ?_; intro K hK; refine wp_storeR rfl rfl rfl HS.out rowP (.tail (.tail (.head))) (by (first | exact EA.arr ‹_› | exact NA.arr ‹_› | exact arr_zE | exact arr_zN | exact arr_zP | exact arr_zQ | exact PtN.arr ‹_› | exact PtV.arr ‹_› | exact QtN.arr ‹_› | exact qE ‹_› ‹_› ‹_› ‹_› | exact qN ‹_› ‹_› ‹_› ‹_›)) (by (first | exact EA.arr ‹_› | exact NA.arr ‹_› | exact arr_zE | exact arr_zN | exact arr_zP | exact arr_zQ | exact PtN.arr ‹_› | exact PtV.arr ‹_› | exact QtN.arr ‹_› | exact qE ‹_› ‹_› ‹_› ‹_› | exact qN ‹_› ‹_› ‹_› ‹_›)) ?_; intro wz hS9; have HS := hide hS9; clear hS9; refine hK _ _ ?_; (try simp only [Act.put, nq1, nq2, nq3, nq4, nq5, nq6])
      refine wpS_any rfl rfl ?_; intro K hK; refine wp_storeR rfl rfl rfl HS.out rowP (.tail (.head)) (by (first | exact EA.arr ‹_› | exact NA.arr ‹_› | exact arr_zE | exact arr_zN | exact arr_zP | exact arr_zQ | exact PtN.arr ‹_› | exact PtV.arr ‹_› | exact QtN.arr ‹_› | exact qE ‹_› ‹_› ‹_› ‹_› | exact qN ‹_› ‹_› ‹_› ‹_›)) (by (first | exact EA.arr ‹_› | exact NA.arr ‹_› | exact arr_zE | exact arr_zN | exact arr_zP | exact arr_zQ | exact PtN.arr ‹_› | exact PtV.arr ‹_› | exact QtN.arr ‹_› | exact qE ‹_› ‹_› ‹_› ‹_› | exact qN ‹_› ‹_› ‹_› ‹_›)) ?_; intro wz hS9; have HS := hide hS9; clear hS9; refine hK _ _ ?_; (try simp only [Act.put, nq1, nq2, nq3, nq4, nq5, nq6])
      refine wpS_nil ?_
      go_wp2_with fail
      have HS := hide HS.out.drew
      refine wp_region_T [(0, 0), (1, 0), (2, 2), (3, 2), (4, 3)] (by kernel_rfl) (by kernel_rfl) (fun _ _ _ _ h => h) ?_
      refine wpT_loadP rfl rfl rfl rfl HS.out (.tail _ (.tail _ (.head _))) rowP (.all (by first | exact arr_zP | exact PtN.arr ‹_› | exact PtV.arr ‹_› | exact qE ‹_› ‹_› ‹_› ‹_›)) ?_; (try simp only [Act.put, nq1, nq2, nq3, nq4, nq5, nq6])
      refine wpT_loadP rfl rfl rfl rfl HS.out (.tail _ (.head _)) rowP (.all (by first | exact arr_zP | exact PtN.arr ‹_› | exact PtV.arr ‹_› | exact qE ‹_› ‹_› ‹_› ‹_›)) ?_; (try simp only [Act.put, nq1, nq2, nq3, nq4, nq5, nq6])
      refine wpT_callF rfl rfl rfl en29_ad rfl (numD _) ?_; rintro e wy ⟨z, hz, rfl, hb⟩; refine ⟨_, rfl, hb, ?_⟩; have HS := hide (HS.out.call hb); (try simp only [Act.put, nq1, nq2, nq3, nq4, nq5, nq6])
      refine wpT_callF rfl rfl rfl en31_ad rfl (plusP _ (by assumption) (by assumption) (by assumption)) ?_; rintro e wy ⟨z, hz, rfl, hb⟩; refine ⟨_, rfl, hb, ?_⟩; have HS := hide (HS.out.call hb); (try simp only [Act.put, nq1, nq2, nq3, nq4, nq5, nq6])
      refine wpT_late rfl rfl ?_; intro K hK; refine wp_storeR rfl rfl rfl HS.out rowP (.head) (by first | exact arr_zP | exact PtN.arr ‹_› | exact PtV.arr ‹_› | exact qE ‹_› ‹_› ‹_› ‹_›) (by first | exact arr_zP | exact PtN.arr ‹_› | exact PtV.arr ‹_› | exact qE ‹_› ‹_› ‹_› ‹_›) ?_; intro wz hS9; have HS := hide hS9; clear hS9; refine hK _ _ ?_; (try simp only [Act.put, nq1, nq2, nq3, nq4, nq5, nq6])
      refine wpT_nil ?_
      go_wp2_with fail
      refine bodyPost_ret (results_cell_row rfl _ _ _ _ _ _ _ rfl (HS.out.heapM (by (repeat first | exact .head _ | apply List.Mem.tail))) Tryz.underlying63 rfl (by first | (rw [(EA.arr ‹_›).size]; kernel_rfl) | (rw [(NA.arr ‹_›).size]; kernel_rfl) | (rw [(qE ‹_› ‹_› ‹_› ‹_›).size]; kernel_rfl) | (rw [(qN ‹_› ‹_› ‹_› ‹_›).size]; kernel_rfl) | (rw [(PtN.arr ‹_›).size]; kernel_rfl) | (rw [(PtV.arr ‹_›).size]; kernel_rfl) | (rw [(QtN.arr ‹_›).size]; kernel_rfl))) rfl ?_
      exact ⟨_, by assumption, rfl, HS.out.below⟩
  · refine wpS_call rfl rfl ?_; intro K hK; refine wp_loadP rfl rfl HS.out (.tail _ (.head _)) (.all (by (first | exact EA.arr ‹_› | exact NA.arr ‹_› | exact arr_zE | exact arr_zN | exact arr_zP | exact arr_zQ | exact PtN.arr ‹_› | exact PtV.arr ‹_› | exact QtN.arr ‹_› | exact qE ‹_› ‹_› ‹_› ‹_› | exact qN ‹_› ‹_› ‹_› ‹_›))) rowP ?_; refine hK _ _ (fromT_mk HX.out ?_); (try simp only [Act.put, nq1, nq2, nq3, nq4, nq5, nq6])
    refine wpS_call rfl rfl ?_; intro K hK; refine wp_loadP rfl rfl HS.out (.tail _ (.tail _ (.head _))) (.all (by (first | exact EA.arr ‹_› | exact NA.arr ‹_› | exact arr_zE | exact arr_zN | exact arr_zP | exact arr_zQ | exact PtN.arr ‹_› | exact PtV.arr ‹_› | exact QtN.arr ‹_› | exact qE ‹_› ‹_› ‹_› ‹_› | exact qN ‹_› ‹_› ‹_› ‹_›))) rowP ?_; refine hK _ _ (fromT_mk HX.out ?_); (try simp only [Act.put, nq1, nq2, nq3, nq4, nq5, nq6])
    refine wpS_call rfl rfl ?_; intro K hK; refine wp_call rfl enWh rfl (wholeP _ (by assumption)) ?_; rintro e wy ⟨z, hz, rfl, hb⟩; refine ⟨_, rfl, ?_⟩; have HS := hide (HS.out.call hb); have HX := hide (HX.out.trans (hb.mono HX.out.size)); refine hK _ _ (fromT_mk HX.out ?_); (try simp only [Act.put, nq1, nq2, nq3, nq4, nq5, nq6])
    refine wpS_call rfl rfl ?_; intro K hK; refine wp_call rfl enWh rfl (wholeP _ (by assumption)) ?_; rintro e wy ⟨z, hz, rfl, hb⟩; refine ⟨_, rfl, ?_⟩; have HS := hide (HS.out.call hb); have HX := hide (HX.out.trans (hb.mono HX.out.size)); refine hK _ _ (fromT_mk HX.out ?_); (try simp only [Act.put, nq1, nq2, nq3, nq4, nq5, nq6])
    refine wpS_late rfl rfl ?_; intro K hK; refine wp_storeR rfl rfl rfl HS.out rowP (.tail (.tail (.head))) (by (first | exact EA.arr ‹_› | exact NA.arr ‹_› | exact arr_zE | exact arr_zN | exact arr_zP | exact arr_zQ | exact PtN.arr ‹_› | exact PtV.arr ‹_› | exact QtN.arr ‹_› | exact qE ‹_› ‹_› ‹_› ‹_› | exact qN ‹_› ‹_› ‹_› ‹_›)) (by (first | exact EA.arr ‹_› | exact NA.arr ‹_› | exact arr_zE | exact arr_zN | exact arr_zP | exact arr_zQ | exact PtN.arr ‹_› | exact PtV.arr ‹_› | exact QtN.arr ‹_› | exact qE ‹_› ‹_› ‹_› ‹_› | exact qN ‹_› ‹_› ‹_› ‹_›)) ?_; intro wz hS9; have HS := hide hS9; clear hS9; refine hK _ _ ?_; (try simp only [Act.put, nq1, nq2, nq3, nq4, nq5, nq6])
    refine wpS_any rfl rfl ?_; intro K hK; refine wp_storeR rfl rfl rfl HS.out rowP (.tail (.head)) (by (first | exact EA.arr ‹_› | exact NA.arr ‹_› | exact arr_zE | exact arr_zN | exact arr_zP | exact arr_zQ | exact PtN.arr ‹_› | exact PtV.arr ‹_› | exact QtN.arr ‹_› | exact qE ‹_› ‹_› ‹_› ‹_› | exact qN ‹_› ‹_› ‹_› ‹_›)) (by (first | exact EA.arr ‹_› | exact NA.arr ‹_› | exact arr_zE | exact arr_zN | exact arr_zP | exact arr_zQ | exact PtN.arr ‹_› | exact PtV.arr ‹_› | exact QtN.arr ‹_› | exact qE ‹_› ‹_› ‹_› ‹_› | exact qN ‹_› ‹_› ‹_› ‹_›)) ?_; intro wz hS9; have HS := hide hS9; clear hS9; refine hK _ _ ?_; (try simp only [Act.put, nq1, nq2, nq3, nq4, nq5, nq6])
    refine wpS_nil ?_
    go_wp2_with fail
    have HS := hide HS.out.drew
    refine wp_region_T [(0, 0), (1, 0), (2, 2), (3, 2), (4, 3)] (by kernel_rfl) (by kernel_rfl) (fun _ _ _ _ h => h) ?_
    refine wpT_loadP rfl rfl rfl rfl HS.out (.tail _ (.tail _ (.head _))) rowP (.all (by first | exact arr_zP | exact PtN.arr ‹_› | exact PtV.arr ‹_› | exact qE ‹_› ‹_› ‹_› ‹_›)) ?_; (try simp only [Act.put, nq1, nq2, nq3, nq4, nq5, nq6])
    refine wpT_loadP rfl rfl rfl rfl HS.out (.tail _ (.head _)) rowP (.all (by first | exact arr_zP | exact PtN.arr ‹_› | exact PtV.arr ‹_› | exact qE ‹_› ‹_› ‹_› ‹_›)) ?_; (try simp only [Act.put, nq1, nq2, nq3, nq4, nq5, nq6])
    refine wpT_callF rfl rfl rfl en29_ad rfl (numD _) ?_; rintro e wy ⟨z, hz, rfl, hb⟩; refine ⟨_, rfl, hb, ?_⟩; have HS := hide (HS.out.call hb); (try simp only [Act.put, nq1, nq2, nq3, nq4, nq5, nq6])
    refine wpT_callF rfl rfl rfl en31_ad rfl (plusP _ (by assumption) (by assumption) (by assumption)) ?_; rintro e wy ⟨z, hz, rfl, hb⟩; refine ⟨_, rfl, hb, ?_⟩; have HS := hide (HS.out.call hb); (try simp only [Act.put, nq1, nq2, nq3, nq4, nq5, nq6])
    refine wpT_late rfl rfl ?_; intro K hK; refine wp_storeR rfl rfl rfl HS.out rowP (.head) (by first | exact arr_zP | exact PtN.arr ‹_› | exact PtV.arr ‹_› | exact qE ‹_› ‹_› ‹_› ‹_›) (by first | exact arr_zP | exact PtN.arr ‹_› | exact PtV.arr ‹_› | exact qE ‹_› ‹_› ‹_› ‹_›) ?_; intro wz hS9; have HS := hide hS9; clear hS9; refine hK _ _ ?_; (try simp only [Act.put, nq1, nq2, nq3, nq4, nq5, nq6])
    refine wpT_nil ?_
    go_wp2_with fail
    refine bodyPost_ret (results_cell_row rfl _ _ _ _ _ _ _ rfl (HS.out.heapM (by (repeat first | exact .head _ | apply List.Mem.tail))) Tryz.underlying63 rfl (by first | (rw [(EA.arr ‹_›).size]; kernel_rfl) | (rw [(NA.arr ‹_›).size]; kernel_rfl) | (rw [(qE ‹_› ‹_› ‹_› ‹_›).size]; kernel_rfl) | (rw [(qN ‹_› ‹_› ‹_› ‹_›).size]; kernel_rfl) | (rw [(PtN.arr ‹_›).size]; kernel_rfl) | (rw [(PtV.arr ‹_›).size]; kernel_rfl) | (rw [(QtN.arr ‹_›).size]; kernel_rfl))) rfl ?_
    exact ⟨_, by assumption, rfl, HS.out.below⟩
set_option maxRecDepth 100000 in
set_option maxHeartbeats 1600000 in
theorem negP {v : Array Value} {P : Ed} (w : World) (hv : PtV v P) : Calls Tryz.prog 42 #[.agg v] w (ResV w P.neg) := by
  have HS := hide (St.init w NoB)
  go_enter Tryz.func42, Tryz.ntmps42
  go_wp2_with (first | (go_at_call 79; (with_reducible refine (wholeP _ (by assumption)).mono ?_); rintro e wy ⟨v2, hv2, rfl, hb⟩; obtain ⟨⟨X, Y, Z, T⟩, a, b, c, d, rfl, h1, h2, h3, h4, h5⟩ := hv2.ex; have HS := hide (HS.out.call hb)) | (refine wl_loadP rfl rfl rfl HS.out (by (repeat first | exact .head _ | apply List.Mem.tail)) (by first | exact rowE | exact rowP | exact rowN | exact rowQ) (by (first | exact .q0 (EA.arr ‹_›) | exact .q1 (EA.arr ‹_›) (EA.arr ‹_›) | exact .q2 (EA.arr ‹_›) (EA.arr ‹_›) (EA.arr ‹_›) | exact .q3 (EA.arr ‹_›) (EA.arr ‹_›) (EA.arr ‹_›) (EA.arr ‹_›) | exact .q0 (NA.arr ‹_›) | exact .q1 (NA.arr ‹_›) (NA.arr ‹_›) | exact .q2 (NA.arr ‹_›) (NA.arr ‹_›) (NA.arr ‹_›) | exact .q3 (NA.arr ‹_›) (NA.arr ‹_›) (NA.arr ‹_›) (NA.arr ‹_›) | exact .all (by (first | exact EA.arr ‹_› | exact NA.arr ‹_› | exact arr_zE | exact arr_zN | exact arr_zP | exact arr_zQ | exact PtN.arr ‹_› | exact PtV.arr ‹_› | exact QtN.arr ‹_› | exact qE ‹_› ‹_› ‹_› ‹_› | exact qN ‹_› ‹_› ‹_› ‹_›)))) ?_; (try simp only [Act.put, nq1, nq2, nq3, nq4, nq5, nq6])) | (refine wl_storeR rfl rfl rfl rfl HS.out (by first | exact rowE | exact rowP | exact rowN | exact rowQ) (by (repeat first | exact .head | apply Upd.tail)) (by (first | exact EA.arr ‹_› | exact NA.arr ‹_› | exact arr_zE | exact arr_zN | exact arr_zP | exact arr_zQ | exact PtN.arr ‹_› | exact PtV.arr ‹_› | exact QtN.arr ‹_› | exact qE ‹_› ‹_› ‹_› ‹_› | exact qN ‹_› ‹_› ‹_› ‹_›)) (by (first | exact EA.arr ‹_› | exact NA.arr ‹_› | exact arr_zE | exact arr_zN | exact arr_zP | exact arr_zQ | exact PtN.arr ‹_› | exact PtV.arr ‹_› | exact QtN.arr ‹_› | exact qE ‹_› ‹_› ‹_› ‹_› | exact qN ‹_› ‹_› ‹_› ‹_›)) ?_; intro wz hS9; have HS := hide hS9; clear hS9; (try simp only [Act.put, nq1, nq2, nq3, nq4, nq5, nq6])) | (refine wl_allocR rfl rfl HS.out (by first | exact newE | exact newP | exact newN | exact newQ) ?_; intro gz wz hS9; have HS := hide hS9; clear hS9; (try simp only [Act.put, nq1, nq2, nq3, nq4, nq5, nq6])) | (refine wl_boxR rfl rfl rfl HS.out ?_; intro gz wz hS9; have HS := hide hS9; clear hS9; (try simp only [Act.put, nq1, nq2, nq3, nq4, nq5, nq6])))
  have HS := hide HS.out.drew
  refine wp_region_T [(0, 1), (1, 0), (3, 1), (4, 0), (5, 1), (6, 0), (7, 1), (8, 0), (2, 2), (9, 2), (10, 1), (11, 3)] (by kernel_rfl) (by kernel_rfl) (fun _ _ _ _ h => h) ?_
  (refine wpT_pure (v := ?_) rfl rfl ?_ ?_; rotate_left; (intro wx; go_simp; try go_bits) <;> (with_reducible rfl)); (try simp only [Act.put, nq1, nq2, nq3, nq4, nq5, nq6])
  refine wpT_loadP rfl rfl rfl rfl HS.out (.tail _ (.head _)) rowE (.q0 (EA.arr ‹_›)) ?_; (try simp only [Act.put, nq1, nq2, nq3, nq4, nq5, nq6])
  (refine wpT_pure (v := ?_) rfl rfl ?_ ?_; rotate_left; (intro wx; go_simp; try go_bits) <;> (with_reducible rfl)); (try simp only [Act.put, nq1, nq2, nq3, nq4, nq5, nq6])
  refine wpT_loadP rfl rfl rfl rfl HS.out (.tail _ (.head _)) rowE (.q1 (EA.arr ‹_›) (EA.arr ‹_›)) ?_; (try simp only [Act.put, nq1, nq2, nq3, nq4, nq5, nq6])
  (refine wpT_pure (v := ?_) rfl rfl ?_ ?_; rotate_left; (intro wx; go_simp; try go_bits) <;> (with_reducible rfl)); (try simp only [Act.put, nq1, nq2, nq3, nq4, nq5, nq6])
  refine wpT_loadP rfl rfl rfl rfl HS.out (.tail _ (.head _)) rowE (.q2 (EA.arr ‹_›) (EA.arr ‹_›) (EA.arr ‹_›)) ?_; (try simp only [Act.put, nq1, nq2, nq3, nq4, nq5, nq6])
  (refine wpT_pure (v := ?_) rfl rfl ?_ ?_; rotate_left; (intro wx; go_simp; try go_bits) <;> (with_reducible rfl)); (try simp only [Act.put, nq1, nq2, nq3, nq4, nq5, nq6])
  refine wpT_loadP rfl rfl rfl rfl HS.out (.tail _ (.head _)) rowE (.q3 (EA.arr ‹_›) (EA.arr ‹_›) (EA.arr ‹_›) (EA.arr ‹_›)) ?_; (try simp only [Act.put, nq1, nq2, nq3, nq4, nq5, nq6])
  refine wpT_callF rfl rfl rfl en45_ng rfl (negA _ ‹_›) ?_; rintro e wy ⟨z, hz, rfl, hb⟩; refine ⟨_, rfl, hb, ?_⟩; have HS := hide (HS.out.call hb); (try simp only [Act.put, nq1, nq2, nq3, nq4, nq5, nq6])
  refine wpT_callF rfl rfl rfl en45_ng rfl (negA _ ‹_›) ?_; rintro e wy ⟨z, hz, rfl, hb⟩; refine ⟨_, rfl, hb, ?_⟩; have HS := hide (HS.out.call hb); (try simp only [Act.put, nq1, nq2, nq3, nq4, nq5, nq6])
  refine wpT_pure rfl rfl (fun x => run_build4 rfl rfl rfl rfl rfl buildP (exE ‹_›) (exE ‹_›) (exE ‹_›) (exE ‹_›) x) ?_; (try simp only [Act.put, nq1, nq2, nq3, nq4, nq5, nq6])
  refine wpT_late rfl rfl ?_; intro K hK; refine wp_storeR rfl rfl rfl HS.out rowP (.head) (by first | exact arr_zP | exact PtN.arr ‹_› | exact PtV.arr ‹_› | exact qE ‹_› ‹_› ‹_› ‹_›) (by first | exact arr_zP | exact PtN.arr ‹_› | exact PtV.arr ‹_› | exact qE ‹_› ‹_› ‹_› ‹_›) ?_; intro wz hS9; have HS := hide hS9; clear hS9; refine hK _ _ ?_; (try simp only [Act.put, nq1, nq2, nq3, nq4, nq5, nq6])
  refine wpT_nil ?_
  go_wp2_with fail
  refine bodyPost_ret (results_cell_row rfl _ _ _ _ _ _ _ rfl (HS.out.heapM (by (repeat first | exact .head _ | apply List.Mem.tail))) Tryz.underlying63 rfl (by first | (rw [(EA.arr ‹_›).size]; kernel_rfl) | (rw [(NA.arr ‹_›).size]; kernel_rfl) | (rw [(qE ‹_› ‹_› ‹_› ‹_›).size]; kernel_rfl) | (rw [(qN ‹_› ‹_› ‹_› ‹_›).size]; kernel_rfl) | (rw [(PtN.arr ‹_›).size]; kernel_rfl) | (rw [(PtV.arr ‹_›).size]; kernel_rfl) | (rw [(QtN.arr ‹_›).size]; kernel_rfl))) rfl ?_
  exact ⟨_, ⟨⟨-X, Y, Z, -T⟩, _, _, _, _, rfl, by assumption, h2, h3, by assumption, rp_neg h5⟩, rfl, HS.out.below⟩
end Go.Proofs.YtnohmgpmmhlloaaGreatDoor

namespace Go.Proofs.YtnohmgpmmhlloaaGreatDoor
open Go.RowKit
set_option linter.unusedSimpArgs false

theorem bval_bit (l : List UInt8) {q r : Nat} {c : UInt8} (hc : l[q]? = some c) (hr : r < 8) : c.toNat / 2 ^ r % 2 = bval l / 2 ^ (8 * q + r) % 2 := by
  have hq := (List.getElem?_eq_some_iff.1 hc).1
  have h1 : bval l = bval (l.take q) + 256 ^ q * (c.toNat + 256 * bval (l.drop (q + 1))) := by
    have e := bval_append (l.take q) (l.drop q)
    rw [List.take_append_drop, List.length_take, Nat.min_eq_left (by omega)] at e
    rw [e, List.drop_eq_getElem_cons hq]
    rw [List.getElem?_eq_getElem hq] at hc
    injection hc with hc
    rw [hc, bval]
  have h2 := bval_lt (l.take q)
  rw [List.length_take, Nat.min_eq_left (by omega)] at h2
  have hp : (2 : Nat) ^ (8 * q + r) = 256 ^ q * 2 ^ r := by rw [Nat.pow_add, Nat.pow_mul]
  rw [hp, ← Nat.div_div_eq_div_mul, h1, Nat.add_mul_div_left _ _ (Nat.pos_of_ne_zero (by omega)), Nat.div_eq_of_lt h2, Nat.zero_add]
  generalize bval (l.drop (q + 1)) = R
  generalize c.toNat = C
  match r, hr with
  | 0, _ => omega
  | 1, _ => omega
  | 2, _ => omega
  | 3, _ => omega
  | 4, _ => omega
  | 5, _ => omega
  | 6, _ => omega
  | 7, _ => omega
theorem u8_and1 (n : Nat) (h : n < 256) : bits .and .u8 (n : Int) 1 = ((n % 2 : Nat) : Int) := by
  have : ∀ m : Fin 256, bits .and .u8 (m.val : Int) 1 = ((m.val % 2 : Nat) : Int) := by decide +kernel
  exact this ⟨n, h⟩
def mulV (l : List UInt8) : Nat := bval (l.take 32)
set_option maxRecDepth 100000 in
set_option maxHeartbeats 6400000 in
theorem mulP_any {v : Array Value} {P : Ed} (A : Option Addr) (n c : Nat) (l : List UInt8) (w : World) (hv : PtV v P) (hl : l.length = n) (hn : n ≤ 1000) (hr : Rd w (.slice A n c) 1 n (bvs l)) :
    Calls Tryz.prog 36 #[.agg v, .slice A n c] w (ResV w (tmE P (mulV l))) := by
  obtain ⟨m, hm⟩ : ∃ m, m = min n 32 := ⟨_, rfl⟩
  have hmi : min (n : Int) 32 = (m : Int) := by omega
  have hmi2 : (if (n : Int) ≤ 32 then (n : Int) else 32) = (m : Int) := by split <;> omega
  have hmi3 : (if (32 : Int) < (n : Int) then (32 : Int) else (n : Int)) = (m : Int) := by split <;> omega
  have hm32 : m ≤ 32 := by omega
  have hmn : m ≤ n := by omega
  have HM := hide (show mulV l < 256 ^ m by
    unfold mulV
    have := bval_lt (l.take 32)
    rw [List.length_take, hl] at this
    rw [hm, Nat.min_comm]
    exact this)
  have HBIT := hide (fun (i k : Nat) (c : UInt8) (hc : l[i]? = some c) (hi : i < m) (hk : k < 8) => show c.toNat / 2 ^ k % 2 = mulV l / 2 ^ (8 * i + k) % 2 from by
    have h : (l.take 32)[i]? = some c := by rw [List.getElem?_take_of_lt (by omega)]; exact hc
    exact bval_bit (l.take 32) h hk)
  have HR := hide hr
  have HL := hide hl
  generalize mulV l = V at *
  have HS := hide (St.init w NoB)
  clear hr hl hm
  go_enter Tryz.func36, Tryz.ntmps36
  go_wp2_with (first | (go_at_call 79; (with_reducible refine (wholeP _ (by assumption)).mono ?_); rintro e wy ⟨z, hz, rfl, hb⟩; try have HS := hide (HS.out.call hb)) | (go_at_call 78; (with_reducible refine (numD _).mono ?_); rintro e wy ⟨z, hz, rfl, hb⟩; try have HS := hide (HS.out.call hb)) | (go_at_call 81; (with_reducible refine (zeroP _).mono ?_); rintro e wy ⟨z, hz, rfl, hb⟩; try have HS := hide (HS.out.call hb)) | (refine wl_loadP rfl rfl rfl HS.out (by (repeat first | exact .head _ | apply List.Mem.tail)) (by first | exact rowE | exact rowP | exact rowN | exact rowQ) (by (first | exact .q0 (EA.arr ‹_›) | exact .q1 (EA.arr ‹_›) (EA.arr ‹_›) | exact .q2 (EA.arr ‹_›) (EA.arr ‹_›) (EA.arr ‹_›) | exact .q3 (EA.arr ‹_›) (EA.arr ‹_›) (EA.arr ‹_›) (EA.arr ‹_›) | exact .q0 (NA.arr ‹_›) | exact .q1 (NA.arr ‹_›) (NA.arr ‹_›) | exact .q2 (NA.arr ‹_›) (NA.arr ‹_›) (NA.arr ‹_›) | exact .q3 (NA.arr ‹_›) (NA.arr ‹_›) (NA.arr ‹_›) (NA.arr ‹_›) | exact .all (by (first | exact EA.arr ‹_› | exact NA.arr ‹_› | exact arr_zE | exact arr_zN | exact arr_zP | exact arr_zQ | exact PtN.arr ‹_› | exact PtV.arr ‹_› | exact QtN.arr ‹_› | exact qE ‹_› ‹_› ‹_› ‹_› | exact qN ‹_› ‹_› ‹_› ‹_›)))) ?_; (try simp only [Act.put, nq1, nq2, nq3, nq4, nq5, nq6])) | (refine wl_storeR rfl rfl rfl rfl HS.out (by first | exact rowE | exact rowP | exact rowN | exact rowQ) (by (repeat first | exact .head | apply Upd.tail)) (by (first | exact EA.arr ‹_› | exact NA.arr ‹_› | exact arr_zE | exact arr_zN | exact arr_zP | exact arr_zQ | exact PtN.arr ‹_› | exact PtV.arr ‹_› | exact QtN.arr ‹_› | exact qE ‹_› ‹_› ‹_› ‹_› | exact qN ‹_› ‹_› ‹_› ‹_›)) (by (first | exact EA.arr ‹_› | exact NA.arr ‹_› | exact arr_zE | exact arr_zN | exact arr_zP | exact arr_zQ | exact PtN.arr ‹_› | exact PtV.arr ‹_› | exact QtN.arr ‹_› | exact qE ‹_› ‹_› ‹_› ‹_› | exact qN ‹_› ‹_› ‹_› ‹_›)) ?_; intro wz hS9; have HS := hide hS9; clear hS9; (try simp only [Act.put, nq1, nq2, nq3, nq4, nq5, nq6])) | (refine wl_allocR rfl rfl HS.out (by first | exact newE | exact newP | exact newN | exact newQ) ?_; intro gz wz hS9; have HS := hide hS9; clear hS9; (try simp only [Act.put, nq1, nq2, nq3, nq4, nq5, nq6])) | (refine wl_boxR rfl rfl rfl HS.out ?_; intro gz wz hS9; have HS := hide hS9; clear hS9; (try simp only [Act.put, nq1, nq2, nq3, nq4, nq5, nq6])))
  rename_i HSa gP wa HSb gR wb HSc wc uP huP hbP HSd wd HSe we uD huD hbD HSf gD wf HSg wg HSh HSi wh HSj K1 a1
  clear HSa HSb HSc hbP HSd HSe hbD HSf HSg HSh HSi HSj hb
  go_loopw [8] (fun iv wr => ∃ (j : Nat) (u : Array Value), j ≤ m ∧ iv = .int .i64 ((j : Int) - 1) ∧ Hid (PtN u (tmE P (V / 2 ^ (8 * j)))) ∧ Hid (St w NoB wr [.cells gz u 63, .cells gD uD 61, .cells gR zP 63, .cells gP uP 63])) (fun iv _ => (1 + intOf iv).toNat)
  case atStart =>
    refine ⟨m, z, by omega, rfl, hide ?_, HS⟩
    have h := HM.out
    rw [show (256 : Nat) ^ m = 2 ^ (8 * m) from by rw [Nat.pow_mul]] at h
    rw [Nat.div_eq_of_lt h]
    exact hz
  case round =>
    clear HS hz
    obtain ⟨j, u, hj, rfl, HU, HS⟩ := hrel
    cases j with
    | zero =>
      have e0 : ((0 : Nat) : Int) - 1 = -1 := by omega
      simp only [e0]
      have hu := HU.out
      go_wp2_with (first | (refine wl_loadP rfl rfl rfl HS.out (by (repeat first | exact .head _ | apply List.Mem.tail)) (by first | exact rowE | exact rowP | exact rowN | exact rowQ) (by (first | exact .q0 (EA.arr ‹_›) | exact .q1 (EA.arr ‹_›) (EA.arr ‹_›) | exact .q2 (EA.arr ‹_›) (EA.arr ‹_›) (EA.arr ‹_›) | exact .q3 (EA.arr ‹_›) (EA.arr ‹_›) (EA.arr ‹_›) (EA.arr ‹_›) | exact .q0 (NA.arr ‹_›) | exact .q1 (NA.arr ‹_›) (NA.arr ‹_›) | exact .q2 (NA.arr ‹_›) (NA.arr ‹_›) (NA.arr ‹_›) | exact .q3 (NA.arr ‹_›) (NA.arr ‹_›) (NA.arr ‹_›) (NA.arr ‹_›) | exact .all (by (first | exact EA.arr ‹_› | exact NA.arr ‹_› | exact arr_zE | exact arr_zN | exact arr_zP | exact arr_zQ | exact PtN.arr ‹_› | exact PtV.arr ‹_› | exact QtN.arr ‹_› | exact qE ‹_› ‹_› ‹_› ‹_› | exact qN ‹_› ‹_› ‹_› ‹_›)))) ?_; (try simp only [Act.put, nq1, nq2, nq3, nq4, nq5, nq6])) | (refine wl_storeR rfl rfl rfl rfl HS.out (by first | exact rowE | exact rowP | exact rowN | exact rowQ) (by (repeat first | exact .head | apply Upd.tail)) (by (first | exact EA.arr ‹_› | exact NA.arr ‹_› | exact arr_zE | exact arr_zN | exact arr_zP | exact arr_zQ | exact PtN.arr ‹_› | exact PtV.arr ‹_› | exact QtN.arr ‹_› | exact qE ‹_› ‹_› ‹_› ‹_› | exact qN ‹_› ‹_› ‹_› ‹_›)) (by (first | exact EA.arr ‹_› | exact NA.arr ‹_› | exact arr_zE | exact arr_zN | exact arr_zP | exact arr_zQ | exact PtN.arr ‹_› | exact PtV.arr ‹_› | exact QtN.arr ‹_› | exact qE ‹_› ‹_› ‹_› ‹_› | exact qN ‹_› ‹_› ‹_› ‹_›)) ?_; intro wz hS9; have HS := hide hS9; clear hS9; (try simp only [Act.put, nq1, nq2, nq3, nq4, nq5, nq6])) | (refine wl_allocR rfl rfl HS.out (by first | exact newE | exact newP | exact newN | exact newQ) ?_; intro gz wz hS9; have HS := hide hS9; clear hS9; (try simp only [Act.put, nq1, nq2, nq3, nq4, nq5, nq6])) | (refine wl_boxR rfl rfl rfl HS.out ?_; intro gz wz hS9; have HS := hide hS9; clear hS9; (try simp only [Act.put, nq1, nq2, nq3, nq4, nq5, nq6])))
      refine bodyPost_ret (results_cell_row rfl _ _ _ _ _ _ _ rfl (HS.out.heapM (by (repeat first | exact .head _ | apply List.Mem.tail))) Tryz.underlying63 rfl (by first | (rw [(EA.arr ‹_›).size]; kernel_rfl) | (rw [(NA.arr ‹_›).size]; kernel_rfl) | (rw [(qE ‹_› ‹_› ‹_› ‹_›).size]; kernel_rfl) | (rw [(qN ‹_› ‹_› ‹_› ‹_›).size]; kernel_rfl) | (rw [(PtN.arr ‹_›).size]; kernel_rfl) | (rw [(PtV.arr ‹_›).size]; kernel_rfl) | (rw [(QtN.arr ‹_›).size]; kernel_rfl))) rfl ?_
      rw [Nat.mul_zero, Nat.pow_zero, Nat.div_one] at hu
      exact ⟨_, hu, rfl, HS.out.below⟩
    | succ j =>
      have e1 : (((j + 1 : Nat) : Int) - 1) = (j : Int) := by omega
      simp only [e1]
      have di : decide ((0 : Int) ≤ (j : Int)) = true := by simp
      have jn : (j : Int) < (n : Int) := by omega
      have j32 : (j : Int) < 32 := by omega
      obtain ⟨cb, hxb⟩ : ∃ cb, l[j]? = some cb := ⟨l[j]'(by have := HL.out; omega), List.getElem?_eq_getElem _⟩
      obtain ⟨b, o, rfl, hcb⟩ := rd_at' HR.out (bvs_get hxb)
      have hbl := World.block_lt_of_cell? _ _ hcb
      obtain ⟨ch, hch⟩ : ∃ c : Nat, c = cb.toNat := ⟨_, rfl⟩
      have HBB := hide (fun k hk => HBIT.out j k cb hxb (by omega) hk)
      have hc8 : ch < 256 := by rw [hch]; exact UInt8.toNat_lt _
      rw [← hch] at hcb HBB
      have HB := hide (fun W (h : Below w.heap.size w W) => (h.cell (p := ⟨b, o + j, none⟩) hbl).trans hcb)
      have HJ := hide hj
      clear hxb hch hcb hbl hj e1
      go_wp2_with fail
      go_loopw [9] (fun kv wr => ∃ (q : Nat) (u : Array Value), q ≤ 8 ∧ kv = .int .i64 ((q : Int) - 1) ∧ Hid (PtN u (tmE P (V / 2 ^ (8 * j + q)))) ∧ Hid (St w NoB wr [.cells gz u 63, .cells gD uD 61, .cells gR zP 63, .cells gP uP 63])) (fun kv _ => (1 + intOf kv).toNat)
      case atStart => exact ⟨8, u, by omega, by first | rfl | go_num, HU, HS⟩
      case round =>
        clear HS HU
        obtain ⟨q, u2, hq, rfl, HU, HS⟩ := hrel
        cases q with
        | zero =>
          have e0 : ((0 : Nat) : Int) - 1 = -1 := by omega
          simp only [e0]
          go_wp2_with fail
          go_roundw
          case rel => exact ⟨j, u2, by have := HJ.out; omega, by first | rfl | go_num, HU, HS⟩
          case measure => (simp [intOf]) <;> omega
        | succ r =>
          have e1 : (((r + 1 : Nat) : Int) - 1) = (r : Int) := by omega
          simp only [e1]
          have dr : decide ((0 : Int) ≤ (r : Int)) = true := by simp
          have r8 : (r : Int) < 8 := by omega
          obtain ⟨bt, hbt⟩ : ∃ t, t = ch / 2 ^ r % 2 := ⟨_, rfl⟩
          obtain ⟨cs, hcs⟩ : ∃ t, t = ch / 2 ^ r := ⟨_, rfl⟩
          have s1 : (ch : Int) / 2 ^ r = (cs : Int) := by rw [hcs, Int.natCast_ediv, Int.natCast_pow]; rfl
          have cs8' : cs < 256 := by have := Nat.div_le_self ch (2 ^ r); omega
          have cs8 : (cs : Int) < 256 := by omega
          have s2 : bits .and .u8 (cs : Int) 1 = (bt : Int) := by rw [u8_and1 _ cs8', hbt, ← hcs]
          have hbit := HBB.out r (by omega)
          rw [← hbt] at hbit
          have hu := HU.out
          have HSTEP := hide (tmE_bit P V (8 * j + r))
          rw [← hbit] at HSTEP
          clear hbt hcs hbit e1 cs8'
          have HR9 := hide hq
          by_cases hb1 : bt = 1
          · subst hb1
            rw [if_pos rfl] at HSTEP
            go_wp2_with (first | (go_at_call 80; (with_reducible refine (plusP _ hu2 huP huD).mono ?_); rintro e wy ⟨z, hu3, rfl, hb⟩; have HS := hide (HS.out.call hb); clear hb) | (go_at_call 80; (with_reducible refine (plusP _ hu hu huD).mono ?_); rintro e wy ⟨z, hu2, rfl, hb⟩; have HS := hide (HS.out.call hb); clear hb) | (refine wl_storeR rfl rfl rfl rfl HS.out rowP .head (PtN.arr hu2) (PtN.arr hu3) ?_; intro wz hS9; have HS := hide hS9; have hq := HB.out _ hS9.below; clear hS9; (try simp only [Act.put, nq1, nq2, nq3, nq4, nq5, nq6])) | (refine wl_storeR rfl rfl rfl rfl HS.out rowP .head (PtN.arr hu) (PtN.arr hu2) ?_; intro wz hS9; have HS := hide hS9; have hq := HB.out _ hS9.below; clear hS9; (try simp only [Act.put, nq1, nq2, nq3, nq4, nq5, nq6])) | (refine wl_loadP rfl rfl rfl HS.out (.tail _ (.tail _ (.tail _ (.head _)))) rowP (.all (PtN.arr huP)) ?_; (try simp only [Act.put, nq1, nq2, nq3, nq4, nq5, nq6])) | (refine wl_loadP rfl rfl rfl HS.out (.head _) rowP (.all (PtN.arr hu2)) ?_; (try simp only [Act.put, nq1, nq2, nq3, nq4, nq5, nq6])) | (refine wl_loadP rfl rfl rfl HS.out (.head _) rowP (.all (PtN.arr hu)) ?_; (try simp only [Act.put, nq1, nq2, nq3, nq4, nq5, nq6])) | (refine wl_loadP rfl rfl rfl HS.out (.tail _ (.head _)) rowE (.all huD.arr) ?_; (try simp only [Act.put, nq1, nq2, nq3, nq4, nq5, nq6])))
            go_roundw
            case rel => exact ⟨r, _, by have := HR9.out; omega, by first | rfl | go_num, hide (by rw [HSTEP.out]; assumption), HS⟩
            case measure => (simp [intOf]) <;> omega
          · have b0 : (((bt : Nat) : Int) == 1) = false := by simp; omega
            have b0' : (bt == 1) = false := by simp; omega
            have b0d : decide (((bt : Nat) : Int) = 1) = false := by simp; omega
            rw [if_neg hb1] at HSTEP
            clear hb1
            go_wp2_with (first | (go_at_call 80; (with_reducible refine (plusP _ hu hu huD).mono ?_); rintro e wy ⟨z, hu2, rfl, hb⟩; have HS := hide (HS.out.call hb); clear hb) | (refine wl_storeR rfl rfl rfl rfl HS.out rowP .head (PtN.arr hu) (PtN.arr hu2) ?_; intro wz hS9; have HS := hide hS9; have hq := HB.out _ hS9.below; clear hS9; (try simp only [Act.put, nq1, nq2, nq3, nq4, nq5, nq6])) | (refine wl_loadP rfl rfl rfl HS.out (.head _) rowP (.all (PtN.arr hu)) ?_; (try simp only [Act.put, nq1, nq2, nq3, nq4, nq5, nq6])) | (refine wl_loadP rfl rfl rfl HS.out (.tail _ (.head _)) rowE (.all huD.arr) ?_; (try simp only [Act.put, nq1, nq2, nq3, nq4, nq5, nq6])))
            go_roundw
            case rel => exact ⟨r, _, by have := HR9.out; omega, by first | rfl | go_num, hide (by rw [HSTEP.out]; assumption), HS⟩
            case measure => (simp [intOf]) <;> omega
end Go.Proofs.YtnohmgpmmhlloaaGreatDoor

namespace Go.Proofs.YtnohmgpmmhlloaaGreatDoor
open Go.RowKit
set_option linter.unusedSimpArgs false

theorem u8_or128 (n : Nat) (h : n < 128) : bits .or .u8 (n : Int) 128 = ((n + 128 : Nat) : Int) := by
  have : ∀ m : Fin 128, bits .or .u8 (m.val : Int) 128 = ((m.val + 128 : Nat) : Int) := by decide +kernel
  exact this ⟨n, h⟩
theorem list_top {l : List UInt8} {r : Nat} (hl : l.length = 31) (x : UInt8) : (l ++ [UInt8.ofNat r])[31]? = some (UInt8.ofNat r) ∧ (l ++ [UInt8.ofNat r]).set 31 x = l ++ [x] := by
  constructor
  · rw [List.getElem?_append_right (by omega), hl]; rfl
  · rw [List.set_append_right _ _ (by omega), hl]; rfl
set_option maxRecDepth 100000 in
set_option maxHeartbeats 1600000 in
theorem bytesP {v : Array Value} {P : Ed} (w : World) (hv : PtV v P) : Calls Tryz.prog 37 #[.agg v] w (ResB 5 w (packL P)) := by
  have HS := hide (St.init w NoB)
  obtain ⟨l, r, hl31, hr128, e1, e2⟩ := top_bit P.y.val (Nat.lt_trans P.y.isLt pq_255)
  have HE1 := hide e1
  have HE2 := hide e2
  have HL31 := hide hl31
  have hpk : packL P = if P.x.val % 2 = 1 then l ++ [UInt8.ofNat (r + 128)] else l ++ [UInt8.ofNat r] := by
    unfold packL packN
    split
    · exact e2
    · rw [Nat.add_zero]; exact e1
  have HPK := hide hpk
  have hlen : (l ++ [UInt8.ofNat r]).length = 32 := by rw [List.length_append, hl31]; rfl
  have HLEN := hide hlen
  clear e1 e2 hpk hl31 hlen
  go_enter Tryz.func37, Tryz.ntmps37
  go_upto_region 4 with (first
    | (go_at_call 79; (with_reducible refine (wholeP _ (by assumption)).mono ?_); rintro e wy ⟨v2, hv2, rfl, hb⟩; obtain ⟨⟨X, Y, Z, T⟩, a, b, c, d, rfl, h1, h2, h3, h4, h5⟩ := hv2.ex; have HS := hide (HS.out.call hb))
    | (go_at_call 82; (with_reducible refine (invA _ h3).mono ?_); rintro e wy ⟨zi, hzi, rfl, hb⟩; have HS := hide (HS.out.call hb))
    | (go_at_call 83; (with_reducible refine (mulA _ h2 hzi).mono ?_); rintro e wy ⟨zy, hzy, rfl, hb⟩; rw [rp_y h5] at hzy; have HS := hide (HS.out.call hb))
    | (go_at_call 84; (with_reducible refine (bytesA _ hzy).mono ?_); rintro e wy hRB; rw [HE1.out] at hRB; obtain ⟨B, dd, rfl, hb, ho⟩ := hRB; rw [HLEN.out] at ho ⊢; have HS := hide (HS.out.row hb ho); clear ho)
    | (refine wl_loadP rfl rfl rfl HS.out (by (repeat first | exact .head _ | apply List.Mem.tail)) (by first | exact rowE | exact rowP | exact rowN | exact rowQ) (by (first | exact .q0 (EA.arr ‹_›) | exact .q1 (EA.arr ‹_›) (EA.arr ‹_›) | exact .q2 (EA.arr ‹_›) (EA.arr ‹_›) (EA.arr ‹_›) | exact .q3 (EA.arr ‹_›) (EA.arr ‹_›) (EA.arr ‹_›) (EA.arr ‹_›) | exact .q0 (NA.arr ‹_›) | exact .q1 (NA.arr ‹_›) (NA.arr ‹_›) | exact .q2 (NA.arr ‹_›) (NA.arr ‹_›) (NA.arr ‹_›) | exact .q3 (NA.arr ‹_›) (NA.arr ‹_›) (NA.arr ‹_›) (NA.arr ‹_›) | exact .all (by (first | exact EA.arr ‹_› | exact NA.arr ‹_› | exact arr_zE | exact arr_zN | exact arr_zP | exact arr_zQ | exact PtN.arr ‹_› | exact PtV.arr ‹_› | exact QtN.arr ‹_› | exact qE ‹_› ‹_› ‹_› ‹_› | exact qN ‹_› ‹_› ‹_› ‹_›)))) ?_; (try simp only [Act.put, nq1, nq2, nq3, nq4, nq5, nq6])) | (refine wl_storeR rfl rfl rfl rfl HS.out (by first | exact rowE | exact rowP | exact rowN | exact rowQ) (by (repeat first | exact .head | apply Upd.tail)) (by (first | exact EA.arr ‹_› | exact NA.arr ‹_› | exact arr_zE | exact arr_zN | exact arr_zP | exact arr_zQ | exact PtN.arr ‹_› | exact PtV.arr ‹_› | exact QtN.arr ‹_› | exact qE ‹_› ‹_› ‹_› ‹_› | exact qN ‹_› ‹_› ‹_› ‹_›)) (by (first | exact EA.arr ‹_› | exact NA.arr ‹_› | exact arr_zE | exact arr_zN | exact arr_zP | exact arr_zQ | exact PtN.arr ‹_› | exact PtV.arr ‹_› | exact QtN.arr ‹_› | exact qE ‹_› ‹_› ‹_› ‹_› | exact qN ‹_› ‹_› ‹_› ‹_›)) ?_; intro wz hS9; have HS := hide hS9; clear hS9; (try simp only [Act.put, nq1, nq2, nq3, nq4, nq5, nq6])) | (refine wl_allocR rfl rfl HS.out (by first | exact newE | exact newP | exact newN | exact newQ) ?_; intro gz wz hS9; have HS := hide hS9; clear hS9; (try simp only [Act.put, nq1, nq2, nq3, nq4, nq5, nq6])) | (refine wl_boxR rfl rfl rfl HS.out ?_; intro gz wz hS9; have HS := hide hS9; clear hS9; (try simp only [Act.put, nq1, nq2, nq3, nq4, nq5, nq6])))
  have gB : ((bvs (l ++ [UInt8.ofNat r]))[31]? = some (.int .u8 (r : Int))) := by
    rw [bvs_get (list_top HL31.out (UInt8.ofNat r)).1, UInt8.toNat_ofNat', Nat.mod_eq_of_lt (by omega)]
  have GB := hide gB
  have hor := u8_or128 r hr128
  have HR := hide hr128
  clear gB
  have hx31 := rp_x h5
  by_cases hodd : P.x.val % 2 = 1
  · go_wp2_with (first
      | (go_at_call 83; (with_reducible refine (mulA _ h1 hzi).mono ?_); rintro e wy ⟨zx, hzx, rfl, hb⟩; rw [hx31] at hzx; have HS := hide (HS.out.call hb))
      | (go_at_call 85; (with_reducible refine (oddA _ hzx).mono ?_); rintro e wy ⟨rfl, hb⟩; rw [decide_eq_true hodd]; have HS := hide (HS.out.call hb); obtain ⟨g, c1, hvv, _, _, hcs, hfr, _⟩ := HS.out.rowOpen 0 rfl (by omega); injection hvv with hvv1 _ hvv3; subst hvv1 hvv3; have k31 := hcs 31 _ GB.out; have f31 := hfr 31; have HS9 := hide HS.out; clear hcs hfr)
      | (refine wl_loadP rfl rfl rfl HS.out (by (repeat first | exact .head _ | apply List.Mem.tail)) (by first | exact rowE | exact rowP | exact rowN | exact rowQ) (by (first | exact .q0 (EA.arr ‹_›) | exact .q1 (EA.arr ‹_›) (EA.arr ‹_›) | exact .q2 (EA.arr ‹_›) (EA.arr ‹_›) (EA.arr ‹_›) | exact .q3 (EA.arr ‹_›) (EA.arr ‹_›) (EA.arr ‹_›) (EA.arr ‹_›) | exact .q0 (NA.arr ‹_›) | exact .q1 (NA.arr ‹_›) (NA.arr ‹_›) | exact .q2 (NA.arr ‹_›) (NA.arr ‹_›) (NA.arr ‹_›) | exact .q3 (NA.arr ‹_›) (NA.arr ‹_›) (NA.arr ‹_›) (NA.arr ‹_›) | exact .all (by (first | exact EA.arr ‹_› | exact NA.arr ‹_› | exact arr_zE | exact arr_zN | exact arr_zP | exact arr_zQ | exact PtN.arr ‹_› | exact PtV.arr ‹_› | exact QtN.arr ‹_› | exact qE ‹_› ‹_› ‹_› ‹_› | exact qN ‹_› ‹_› ‹_› ‹_›)))) ?_; (try simp only [Act.put, nq1, nq2, nq3, nq4, nq5, nq6])) | (refine wl_storeR rfl rfl rfl rfl HS.out (by first | exact rowE | exact rowP | exact rowN | exact rowQ) (by (repeat first | exact .head | apply Upd.tail)) (by (first | exact EA.arr ‹_› | exact NA.arr ‹_› | exact arr_zE | exact arr_zN | exact arr_zP | exact arr_zQ | exact PtN.arr ‹_› | exact PtV.arr ‹_› | exact QtN.arr ‹_› | exact qE ‹_› ‹_› ‹_› ‹_› | exact qN ‹_› ‹_› ‹_› ‹_›)) (by (first | exact EA.arr ‹_› | exact NA.arr ‹_› | exact arr_zE | exact arr_zN | exact arr_zP | exact arr_zQ | exact PtN.arr ‹_› | exact PtV.arr ‹_› | exact QtN.arr ‹_› | exact qE ‹_› ‹_› ‹_› ‹_› | exact qN ‹_› ‹_› ‹_› ‹_›)) ?_; intro wz hS9; have HS := hide hS9; clear hS9; (try simp only [Act.put, nq1, nq2, nq3, nq4, nq5, nq6])) | (refine wl_allocR rfl rfl HS.out (by first | exact newE | exact newP | exact newN | exact newQ) ?_; intro gz wz hS9; have HS := hide hS9; clear hS9; (try simp only [Act.put, nq1, nq2, nq3, nq4, nq5, nq6])) | (refine wl_boxR rfl rfl rfl HS.out ?_; intro gz wz hS9; have HS := hide hS9; clear hS9; (try simp only [Act.put, nq1, nq2, nq3, nq4, nq5, nq6])))
    go_ret
    have h9 := HS9.out.rowSet 0 rfl 31 (.int .u8 ((r + 128 : Nat) : Int)) (by omega)
    rw [bvs_set _ _ _ (by have := HR.out; omega), (list_top HL31.out _).2] at h9
    refine resB_of h9 0 rfl ?_
    rw [HPK.out, if_pos hodd]
  · go_wp2_with (first
      | (go_at_call 83; (with_reducible refine (mulA _ h1 hzi).mono ?_); rintro e wy ⟨zx, hzx, rfl, hb⟩; rw [hx31] at hzx; have HS := hide (HS.out.call hb))
      | (go_at_call 85; (with_reducible refine (oddA _ hzx).mono ?_); rintro e wy ⟨rfl, hb⟩; rw [decide_eq_false hodd]; have HS := hide (HS.out.call hb))
      | (refine wl_loadP rfl rfl rfl HS.out (by (repeat first | exact .head _ | apply List.Mem.tail)) (by first | exact rowE | exact rowP | exact rowN | exact rowQ) (by (first | exact .q0 (EA.arr ‹_›) | exact .q1 (EA.arr ‹_›) (EA.arr ‹_›) | exact .q2 (EA.arr ‹_›) (EA.arr ‹_›) (EA.arr ‹_›) | exact .q3 (EA.arr ‹_›) (EA.arr ‹_›) (EA.arr ‹_›) (EA.arr ‹_›) | exact .q0 (NA.arr ‹_›) | exact .q1 (NA.arr ‹_›) (NA.arr ‹_›) | exact .q2 (NA.arr ‹_›) (NA.arr ‹_›) (NA.arr ‹_›) | exact .q3 (NA.arr ‹_›) (NA.arr ‹_›) (NA.arr ‹_›) (NA.arr ‹_›) | exact .all (by (first | exact EA.arr ‹_› | exact NA.arr ‹_› | exact arr_zE | exact arr_zN | exact arr_zP | exact arr_zQ | exact PtN.arr ‹_› | exact PtV.arr ‹_› | exact QtN.arr ‹_› | exact qE ‹_› ‹_› ‹_› ‹_› | exact qN ‹_› ‹_› ‹_› ‹_›)))) ?_; (try simp only [Act.put, nq1, nq2, nq3, nq4, nq5, nq6])) | (refine wl_storeR rfl rfl rfl rfl HS.out (by first | exact rowE | exact rowP | exact rowN | exact rowQ) (by (repeat first | exact .head | apply Upd.tail)) (by (first | exact EA.arr ‹_› | exact NA.arr ‹_› | exact arr_zE | exact arr_zN | exact arr_zP | exact arr_zQ | exact PtN.arr ‹_› | exact PtV.arr ‹_› | exact QtN.arr ‹_› | exact qE ‹_› ‹_› ‹_› ‹_› | exact qN ‹_› ‹_› ‹_› ‹_›)) (by (first | exact EA.arr ‹_› | exact NA.arr ‹_› | exact arr_zE | exact arr_zN | exact arr_zP | exact arr_zQ | exact PtN.arr ‹_› | exact PtV.arr ‹_› | exact QtN.arr ‹_› | exact qE ‹_› ‹_› ‹_› ‹_› | exact qN ‹_› ‹_› ‹_› ‹_›)) ?_; intro wz hS9; have HS := hide hS9; clear hS9; (try simp only [Act.put, nq1, nq2, nq3, nq4, nq5, nq6])) | (refine wl_allocR rfl rfl HS.out (by first | exact newE | exact newP | exact newN | exact newQ) ?_; intro gz wz hS9; have HS := hide hS9; clear hS9; (try simp only [Act.put, nq1, nq2, nq3, nq4, nq5, nq6])) | (refine wl_boxR rfl rfl rfl HS.out ?_; intro gz wz hS9; have HS := hide hS9; clear hS9; (try simp only [Act.put, nq1, nq2, nq3, nq4, nq5, nq6])))
    go_ret
    refine resB_of HS.out 0 rfl ?_
    rw [HPK.out, if_neg hodd]
end Go.Proofs.YtnohmgpmmhlloaaGreatDoor

namespace Go.Proofs.YtnohmgpmmhlloaaGreatDoor
open Go.RowKit
set_option linter.unusedSimpArgs false

theorem bytesP32 {v : Array Value} {P : Ed} (w : World) (hv : PtV v P) : Calls Tryz.prog 37 #[.agg v] w fun e w' => ∃ A c, e = .returned (.slice A 32 c) ∧ Below w.heap.size w w' ∧ w'.ownsRow w.heap.size 5 1 (.slice A 32 c) 32 (bvs (packL P)) :=
  (bytesP w hv).mono fun e w' h => by
    unfold ResB at h
    rw [packL_len] at h
    exact h
end Go.Proofs.YtnohmgpmmhlloaaGreatDoor
