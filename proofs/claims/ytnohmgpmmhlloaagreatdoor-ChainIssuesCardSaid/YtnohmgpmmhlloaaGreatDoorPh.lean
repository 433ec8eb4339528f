/-
 Joined of texts of mine, in build order: Ar, At, Au, Av, Mc, Br, Bs, Bu, Bw, Bx, Bv, By, Ic, Id, Ra, Rb. Each says what it proves at its own head.
-/
import Derived.Test.YtnohmgpmmhlloaaGreatDoorPg
set_option linter.unusedSimpArgs false
set_option linter.unusedVariables false
set_option maxRecDepth 100000
set_option maxHeartbeats 25600000

namespace Go.Proofs.YtnohmgpmmhlloaaGreatDoor
open Go.RowKit
set_option linter.unusedSimpArgs false
structure Rz where
 c : Nat
 p : Tp
def TkQ (w : World) (r : Rz) (e : Ending) (w' : World) : Prop := ∃ (t : Tk) (G : List Chunk), e = .returned (.tuple #[t.val, .int .i64 (r.c : Int)]) ∧ t.p = r.p ∧ TkIn G t ∧ St w NoB w' G
theorem tkQ_ok {w : World} {p : Tp} {e : Ending} {w' : World} (h : TkG w p e w') : TkQ w ⟨0, p⟩ e w' := by
 obtain ⟨t, G, h1, h2, h3, h4⟩ := h
 exact ⟨t, G, h1, h2, h3, h4⟩
theorem tk0_in (H : List Chunk) : TkIn (pc0.ch :: .row (.slice none 0 0) 32 5 0 [] :: H) tk0 := ⟨List.mem_cons_self .., List.mem_cons_of_mem _ (List.mem_cons_self ..), (fun y hy => absurd hy List.not_mem_nil), List.mem_cons_self .., List.mem_cons_self ..⟩
theorem tkQ_no {w : World} {c : Nat} {e : Ending} {w' : World} (h : TkE w (c : Int) e w') : TkQ w ⟨c, tp0⟩ e w' := by
 obtain ⟨h1, h2⟩ := h
 exact ⟨tk0, _, h1, tk0_p, tk0_in [], (((St.init w NoB).call h2).row (Below.refl _ _) (World.ownsRow_nil _ _ _ _)).row (Below.refl _ _) (World.ownsRow_nil _ _ _ _)⟩
noncomputable def addRz (t : Tp) (nx : List UInt8) (x : Sp) : Rz :=
 if nx.length ≠ 32 then ⟨1, tp0⟩ else if 65536 < x.b.length then ⟨1, tp0⟩ else if t.l.length = 0 then ⟨1, tp0⟩ else if t.e.length ≠ 32 then ⟨13, tp0⟩ else if 8 ≤ t.l.length then ⟨4, tp0⟩ else ⟨0, addK t nx x⟩
theorem added_any (A1 A2 A3 A Ax E1 E2 E3 E4 E5 : Option Addr) (m1 m2 m3 n q n1 n2 n3 n4 n5 c1 c2 c3 c cx f1 f2 f3 f4 f5 : Nat) (l1 l2 l3 nx : List UInt8) (l : List Sg) (y1 y2 y3 y4 y5 : List UInt8) (w : World) (hl1 : l1.length = m1) (hl2 : l2.length = m2) (hl3 : l3.length = m3) (hl : l.length = n) (hx : nx.length = q) (hg1 : y1.length = n1) (hg2 : y2.length = n2) (hg3 : y3.length = n3) (hg4 : y4.length = n4) (hg5 : y5.length = n5) (hn2 : n2 ≤ 10000) (hn3 : n3 ≤ 10000) (hn4 : n4 ≤ 10000) (hn5 : n5 ≤ 10000) (hm1 : m1 ≤ 1000000) (hm3 : m3 ≤ 1000000) (hs : ∀ x ∈ l, x.p.sm)
  (hr1 : Rd w (.slice A1 m1 c1) 1 m1 (bvs l1)) (hr2 : Rd w (.slice A2 m2 c2) 1 m2 (bvs l2)) (hr3 : Rd w (.slice A3 m3 c3) 1 m3 (bvs l3)) (hr : Rd w (.slice A n c) 5 n (sgCells l)) (hok : ∀ x ∈ l, SgOK w x) (hrx : Rd w (.slice Ax q cx) 1 q (bvs nx)) (he1 : Rd w (.slice E1 n1 f1) 1 n1 (bvs y1)) (he2 : Rd w (.slice E2 n2 f2) 1 n2 (bvs y2)) (he3 : Rd w (.slice E3 n3 f3) 1 n3 (bvs y3)) (he4 : Rd w (.slice E4 n4 f4) 1 n4 (bvs y4)) (he5 : Rd w (.slice E5 n5 f5) 1 n5 (bvs y5)) :
  Calls Tryz.prog 51 #[.agg #[.slice A1 m1 c1, .slice A n c, .slice A2 m2 c2, .slice A3 m3 c3], .slice Ax q cx, .agg #[.slice E1 n1 f1, .slice E2 n2 f2, .slice E3 n3 f3, .slice E4 n4 f4, .slice E5 n5 f5]] w (TkQ w (addRz ⟨l1, l.map Sg.p, l2, l3⟩ nx ⟨y1, y2, y3, y4, y5⟩)) := by
 unfold addRz
 show Calls _ _ _ _ (TkQ w (if nx.length ≠ 32 then _ else if 65536 < y1.length then _ else if (l.map Sg.p).length = 0 then _ else if l2.length ≠ 32 then _ else if 8 ≤ (l.map Sg.p).length then _ else _))
 rw [List.length_map]
 by_cases h1 : nx.length ≠ 32
 ·rw [if_pos h1]
  exact (added_bad1 _ _ _ _ _ _ _ _ _ _ _ _ _ _ _ _ _ _ _ _ _ _ _ _ _ _ _ _ _ _ _ (by omega)).mono fun _ _ h => tkQ_no h
 rw [if_neg h1]
 obtain rfl : q = 32 := by omega
 by_cases h2 : 65536 < y1.length
 ·rw [if_pos h2]
  exact (added_bad2 _ _ _ _ _ _ _ _ _ _ _ _ _ _ _ _ _ _ _ _ _ _ _ _ _ _ _ _ _ _ (by omega)).mono fun _ _ h => tkQ_no h
 rw [if_neg h2]
 by_cases h3 : l.length = 0
 ·rw [if_pos h3]
  obtain rfl : n = 0 := by omega
  exact (added_bad3 _ _ _ _ _ _ _ _ _ _ _ _ _ _ _ _ _ _ _ _ _ _ _ _ _ _ _ _ _ (by omega)).mono fun _ _ h => tkQ_no h
 rw [if_neg h3]
 by_cases h4 : l2.length ≠ 32
 ·rw [if_pos h4]
  exact (added_bad4 _ _ _ _ _ _ _ _ _ _ _ _ _ _ _ _ _ _ _ _ _ _ _ _ _ _ _ _ _ _ (by omega) (by omega) (by omega)).mono fun _ _ h => tkQ_no h
 rw [if_neg h4]
 obtain rfl : m2 = 32 := by omega
 by_cases h5 : 8 ≤ l.length
 ·rw [if_pos h5]
  exact (added_bad5 _ _ _ _ _ _ _ _ _ _ _ _ _ _ _ _ _ _ _ _ _ _ _ _ _ _ _ _ _ (by omega) (by omega)).mono fun _ _ h => tkQ_no h
 rw [if_neg h5]
 exact (added_ok _ _ _ _ _ _ _ _ _ _ _ _ _ _ _ _ _ _ _ _ _ _ _ _ _ _ _ _ _ _ _ _ _ _ _ _ _ _ _ hl1 hl2 hl3 hl (by omega) (by omega) hx hg1 hg2 hg3 hg4 hg5 (by omega) hn2 hn3 hn4 hn5 hm1 hm3 hs hr1 hr2 hr3 hr hok hrx he1 he2 he3 he4 he5).mono fun _ _ h => tkQ_ok h
theorem append_any (A1 A2 A3 A Ax E1 : Option Addr) (m1 m2 m3 n q n1 c1 c2 c3 c cx f1 : Nat) (l1 l2 l3 nx : List UInt8) (l : List Sg) (y1 : List UInt8) (w : World) (hl1 : l1.length = m1) (hl2 : l2.length = m2) (hl3 : l3.length = m3) (hl : l.length = n) (hx : nx.length = q) (hg1 : y1.length = n1) (hm1 : m1 ≤ 1000000) (hm3 : m3 ≤ 1000000) (hs : ∀ x ∈ l, x.p.sm)
  (hr1 : Rd w (.slice A1 m1 c1) 1 m1 (bvs l1)) (hr2 : Rd w (.slice A2 m2 c2) 1 m2 (bvs l2)) (hr3 : Rd w (.slice A3 m3 c3) 1 m3 (bvs l3)) (hr : Rd w (.slice A n c) 5 n (sgCells l)) (hok : ∀ x ∈ l, SgOK w x) (hrx : Rd w (.slice Ax q cx) 1 q (bvs nx)) (he1 : Rd w (.slice E1 n1 f1) 1 n1 (bvs y1)) :
  Calls Tryz.prog 21 #[.agg #[.slice A1 m1 c1, .slice A n c, .slice A2 m2 c2, .slice A3 m3 c3], .slice Ax q cx, .slice E1 n1 f1] w (TkQ w (addRz ⟨l1, l.map Sg.p, l2, l3⟩ nx ⟨y1, [], [], [], []⟩)) := by
 have hS0 := ((St.init w NoB).alloc #[.slice A1 m1 c1, .slice A n c, .slice A2 m2 c2, .slice A3 m3 c3] 26).alloc #[.slice none 0 0, .slice none 0 0, .slice none 0 0, .slice none 0 0] 26
 rw [size_alloc1] at hS0
 have HS := hide hS0
 clear hS0
 have HL1 := hide hl1
 have HL2 := hide hl2
 have HL3 := hide hl3
 have HL := hide hl
 have HX := hide hx
 have HG1 := hide hg1
 have HSS := hide hs
 have HR1 := hide hr1
 have HR2 := hide hr2
 have HR3 := hide hr3
 have HR := hide hr
 have HOK := hide hok
 have HRX := hide hrx
 have HE1 := hide he1
 clear hl1 hl2 hl3 hl hx hg1 hs hr1 hr2 hr3 hr hok hrx he1
 have t0 : _ = some (Value.slice A1 m1 c1) := HS.out.cell 1 rfl 0
 have t1 : _ = some (Value.slice A n c) := HS.out.cell 1 rfl 1
 have t2 : _ = some (Value.slice A2 m2 c2) := HS.out.cell 1 rfl 2
 have t3 : _ = some (Value.slice A3 m3 c3) := HS.out.cell 1 rfl 3
 go_enter Tryz.func21, Tryz.ntmps21
 have M0 := True.intro
 go_wp2_with (first
  | (go_at_call 51; (with_reducible refine (added_any _ _ _ _ _ _ _ _ _ _ _ _ _ _ _ _ _ _ _ _ _ _ _ _ _ _ _ _ _ _ _ _ _ _ _ _ _ _ _ _ _ HL1.out HL2.out HL3.out HL.out HX.out HG1.out (rfl : ([] : List UInt8).length = 0) (rfl : ([] : List UInt8).length = 0) (rfl : ([] : List UInt8).length = 0) (rfl : ([] : List UInt8).length = 0) (by omega) (by omega) (by omega) (by omega) hm1 hm3 HSS.out (HR1.out.below HS.out.below) (HR2.out.below HS.out.below) (HR3.out.below HS.out.below) (HR.out.below HS.out.below) (fun x hx => (HOK.out x hx).on HS.out.below) (HRX.out.below HS.out.below) (HE1.out.below HS.out.below) (rd_nil _ 1) (rd_nil _ 1) (rd_nil _ 1) (rd_nil _ 1)).mono ?_); rintro e w6 ⟨⟨⟨B1, d1, k1⟩, X, x, zs, ⟨B2, d2, k2⟩, ⟨B3, d3, k3⟩⟩, G, rfl, hp, hG, hSz⟩; rw [Tk.val_eq]; have HS := hide (St.rot _ _ (HS.out.join hSz)); have HP := hide hp; have HG := hide hG; clear hp hG hSz; have M1 := True.intro)
  | (refine wl_storeC rfl rfl HS.out 0 rfl (vs := [.slice B1 k1.length d1, .slice X zs.length x, .slice B2 k2.length d2, .slice B3 k3.length d3]) szToken (Nat.le_refl _) rfl rfl one4 ?_; intro w7 hS7; have HS7 := hide hS7; clear hS7))
 refine bodyPost_ret (results_cell_tmp_row rfl _ _ (w.heap.size + 1) _ _ _ _ rfl (HS7.out.heap 0 rfl) Tryz.underlying26 rfl (by kernel_rfl)) rfl ?_
 exact ⟨_, _, rfl, HP.out, HG.out, HS7.out.tail.tail⟩
end Go.Proofs.YtnohmgpmmhlloaaGreatDoor

namespace Go.Proofs.YtnohmgpmmhlloaaGreatDoor
open Go.RowKit
set_option linter.unusedSimpArgs false
noncomputable def avRz (t : Tp) (nx b k v : List UInt8) : Rz := if k.length ≠ 32 then ⟨1, tp0⟩ else if v.length ≠ 64 then ⟨1, tp0⟩ else addRz t nx ⟨b, [], [], k, v⟩
theorem av_bad1 (A1 A2 A3 A Ax E1 E4 E5 : Option Addr) (m1 m2 m3 n q n1 n4 n5 c1 c2 c3 c cx f1 f4 f5 : Nat) (w : World) (hne : n4 ≠ 32) : Calls Tryz.prog 17 #[.agg #[.slice A1 m1 c1, .slice A n c, .slice A2 m2 c2, .slice A3 m3 c3], .slice Ax q cx, .slice E1 n1 f1, .slice E4 n4 f4, .slice E5 n5 f5] w (TkE w 1) := by
 have hS0 := ((St.init w NoB).alloc #[.slice A1 m1 c1, .slice A n c, .slice A2 m2 c2, .slice A3 m3 c3] 26).alloc #[.slice none 0 0, .slice none 0 0, .slice none 0 0, .slice none 0 0] 26
 rw [size_alloc1] at hS0
 have HS := hide hS0
 clear hS0
 have q0 : ((n4 : Int) != 32) = true := by simp; omega
 go_enter Tryz.func17, Tryz.ntmps17
 go_wp2_with (refine wl_storeC rfl rfl HS.out 0 rfl (vs := [.slice none 0 0, .slice none 0 0, .slice none 0 0, .slice none 0 0]) szToken (Nat.le_refl _) rfl rfl one4 ?_; intro w7 hS7; have HS7 := hide hS7; clear hS7)
 refine bodyPost_ret (results_cell_tmp_row rfl _ _ (w.heap.size + 1) _ _ _ _ rfl (HS7.out.heap 0 rfl) Tryz.underlying26 rfl (by kernel_rfl)) rfl ?_
 exact ⟨rfl, HS7.out.below⟩
theorem av_bad2 (A1 A2 A3 A Ax E1 E4 E5 : Option Addr) (m1 m2 m3 n q n1 n5 c1 c2 c3 c cx f1 f4 f5 : Nat) (w : World) (hne : n5 ≠ 64) : Calls Tryz.prog 17 #[.agg #[.slice A1 m1 c1, .slice A n c, .slice A2 m2 c2, .slice A3 m3 c3], .slice Ax q cx, .slice E1 n1 f1, .slice E4 32 f4, .slice E5 n5 f5] w (TkE w 1) := by
 have hS0 := ((St.init w NoB).alloc #[.slice A1 m1 c1, .slice A n c, .slice A2 m2 c2, .slice A3 m3 c3] 26).alloc #[.slice none 0 0, .slice none 0 0, .slice none 0 0, .slice none 0 0] 26
 rw [size_alloc1] at hS0
 have HS := hide hS0
 clear hS0
 have q0 : ((n5 : Int) != 64) = true := by simp; omega
 go_enter Tryz.func17, Tryz.ntmps17
 go_wp2_with (refine wl_storeC rfl rfl HS.out 0 rfl (vs := [.slice none 0 0, .slice none 0 0, .slice none 0 0, .slice none 0 0]) szToken (Nat.le_refl _) rfl rfl one4 ?_; intro w7 hS7; have HS7 := hide hS7; clear hS7)
 refine bodyPost_ret (results_cell_tmp_row rfl _ _ (w.heap.size + 1) _ _ _ _ rfl (HS7.out.heap 0 rfl) Tryz.underlying26 rfl (by kernel_rfl)) rfl ?_
 exact ⟨rfl, HS7.out.below⟩
theorem av_ok (A1 A2 A3 A Ax E1 E4 E5 : Option Addr) (m1 m2 m3 n q n1 c1 c2 c3 c cx f1 f4 f5 : Nat) (l1 l2 l3 nx : List UInt8) (l : List Sg) (y1 y4 y5 : List UInt8) (w : World) (hl1 : l1.length = m1) (hl2 : l2.length = m2) (hl3 : l3.length = m3) (hl : l.length = n) (hx : nx.length = q) (hg1 : y1.length = n1) (hg4 : y4.length = 32) (hg5 : y5.length = 64) (hm1 : m1 ≤ 1000000) (hm3 : m3 ≤ 1000000) (hs : ∀ x ∈ l, x.p.sm)
  (hr1 : Rd w (.slice A1 m1 c1) 1 m1 (bvs l1)) (hr2 : Rd w (.slice A2 m2 c2) 1 m2 (bvs l2)) (hr3 : Rd w (.slice A3 m3 c3) 1 m3 (bvs l3)) (hr : Rd w (.slice A n c) 5 n (sgCells l)) (hok : ∀ x ∈ l, SgOK w x) (hrx : Rd w (.slice Ax q cx) 1 q (bvs nx)) (he1 : Rd w (.slice E1 n1 f1) 1 n1 (bvs y1)) (he4 : Rd w (.slice E4 32 f4) 1 32 (bvs y4)) (he5 : Rd w (.slice E5 64 f5) 1 64 (bvs y5)) :
  Calls Tryz.prog 17 #[.agg #[.slice A1 m1 c1, .slice A n c, .slice A2 m2 c2, .slice A3 m3 c3], .slice Ax q cx, .slice E1 n1 f1, .slice E4 32 f4, .slice E5 64 f5] w (TkQ w (addRz ⟨l1, l.map Sg.p, l2, l3⟩ nx ⟨y1, [], [], y4, y5⟩)) := by
 have hS0 := ((St.init w NoB).alloc #[.slice A1 m1 c1, .slice A n c, .slice A2 m2 c2, .slice A3 m3 c3] 26).alloc #[.slice none 0 0, .slice none 0 0, .slice none 0 0, .slice none 0 0] 26
 rw [size_alloc1] at hS0
 have HS := hide hS0
 clear hS0
 have HL1 := hide hl1
 have HL2 := hide hl2
 have HL3 := hide hl3
 have HL := hide hl
 have HX := hide hx
 have HG1 := hide hg1
 have HG4 := hide hg4
 have HG5 := hide hg5
 have HSS := hide hs
 have HR1 := hide hr1
 have HR2 := hide hr2
 have HR3 := hide hr3
 have HR := hide hr
 have HOK := hide hok
 have HRX := hide hrx
 have HE1 := hide he1
 have HE4 := hide he4
 have HE5 := hide he5
 clear hl1 hl2 hl3 hl hx hg1 hg4 hg5 hs hr1 hr2 hr3 hr hok hrx he1 he4 he5
 have t0 : _ = some (Value.slice A1 m1 c1) := HS.out.cell 1 rfl 0
 have t1 : _ = some (Value.slice A n c) := HS.out.cell 1 rfl 1
 have t2 : _ = some (Value.slice A2 m2 c2) := HS.out.cell 1 rfl 2
 have t3 : _ = some (Value.slice A3 m3 c3) := HS.out.cell 1 rfl 3
 go_enter Tryz.func17, Tryz.ntmps17
 have M0 := True.intro
 go_wp2_with (first
  | (go_at_call 51; (with_reducible refine (added_any _ _ _ _ _ _ _ _ _ _ _ _ _ _ _ _ _ _ _ _ _ _ _ _ _ _ _ _ _ _ _ _ _ _ _ _ _ _ _ _ _ HL1.out HL2.out HL3.out HL.out HX.out HG1.out (rfl : ([] : List UInt8).length = 0) (rfl : ([] : List UInt8).length = 0) HG4.out HG5.out (by omega) (by omega) (by omega) (by omega) hm1 hm3 HSS.out (HR1.out.below HS.out.below) (HR2.out.below HS.out.below) (HR3.out.below HS.out.below) (HR.out.below HS.out.below) (fun x hx => (HOK.out x hx).on HS.out.below) (HRX.out.below HS.out.below) (HE1.out.below HS.out.below) (rd_nil _ 1) (rd_nil _ 1) (HE4.out.below HS.out.below) (HE5.out.below HS.out.below)).mono ?_); rintro e w6 ⟨⟨⟨B1, d1, k1⟩, X, x, zs, ⟨B2, d2, k2⟩, ⟨B3, d3, k3⟩⟩, G, rfl, hp, hG, hSz⟩; rw [Tk.val_eq]; have HS := hide (St.rot _ _ (HS.out.join hSz)); have HP := hide hp; have HG := hide hG; clear hp hG hSz; have M1 := True.intro)
  | (refine wl_storeC rfl rfl HS.out 0 rfl (vs := [.slice B1 k1.length d1, .slice X zs.length x, .slice B2 k2.length d2, .slice B3 k3.length d3]) szToken (Nat.le_refl _) rfl rfl one4 ?_; intro w7 hS7; have HS7 := hide hS7; clear hS7))
 refine bodyPost_ret (results_cell_tmp_row rfl _ _ (w.heap.size + 1) _ _ _ _ rfl (HS7.out.heap 0 rfl) Tryz.underlying26 rfl (by kernel_rfl)) rfl ?_
 exact ⟨_, _, rfl, HP.out, HG.out, HS7.out.tail.tail⟩
theorem av_any (A1 A2 A3 A Ax E1 E4 E5 : Option Addr) (m1 m2 m3 n q n1 n4 n5 c1 c2 c3 c cx f1 f4 f5 : Nat) (l1 l2 l3 nx : List UInt8) (l : List Sg) (y1 y4 y5 : List UInt8) (w : World) (hl1 : l1.length = m1) (hl2 : l2.length = m2) (hl3 : l3.length = m3) (hl : l.length = n) (hx : nx.length = q) (hg1 : y1.length = n1) (hg4 : y4.length = n4) (hg5 : y5.length = n5) (hm1 : m1 ≤ 1000000) (hm3 : m3 ≤ 1000000) (hs : ∀ x ∈ l, x.p.sm)
  (hr1 : Rd w (.slice A1 m1 c1) 1 m1 (bvs l1)) (hr2 : Rd w (.slice A2 m2 c2) 1 m2 (bvs l2)) (hr3 : Rd w (.slice A3 m3 c3) 1 m3 (bvs l3)) (hr : Rd w (.slice A n c) 5 n (sgCells l)) (hok : ∀ x ∈ l, SgOK w x) (hrx : Rd w (.slice Ax q cx) 1 q (bvs nx)) (he1 : Rd w (.slice E1 n1 f1) 1 n1 (bvs y1)) (he4 : Rd w (.slice E4 n4 f4) 1 n4 (bvs y4)) (he5 : Rd w (.slice E5 n5 f5) 1 n5 (bvs y5)) :
  Calls Tryz.prog 17 #[.agg #[.slice A1 m1 c1, .slice A n c, .slice A2 m2 c2, .slice A3 m3 c3], .slice Ax q cx, .slice E1 n1 f1, .slice E4 n4 f4, .slice E5 n5 f5] w (TkQ w (avRz ⟨l1, l.map Sg.p, l2, l3⟩ nx y1 y4 y5)) := by
 unfold avRz
 by_cases h1 : y4.length ≠ 32
 ·rw [if_pos h1]
  exact (av_bad1 _ _ _ _ _ _ _ _ _ _ _ _ _ _ _ _ _ _ _ _ _ _ _ _ _ (by omega)).mono fun _ _ h => tkQ_no h
 rw [if_neg h1]
 obtain rfl : n4 = 32 := by omega
 by_cases h2 : y5.length ≠ 64
 ·rw [if_pos h2]
  exact (av_bad2 _ _ _ _ _ _ _ _ _ _ _ _ _ _ _ _ _ _ _ _ _ _ _ _ (by omega)).mono fun _ _ h => tkQ_no h
 rw [if_neg h2]
 obtain rfl : n5 = 64 := by omega
 exact av_ok _ _ _ _ _ _ _ _ _ _ _ _ _ _ _ _ _ _ _ _ _ _ _ _ _ _ _ _ _ _ _ hl1 hl2 hl3 hl hx hg1 hg4 hg5 hm1 hm3 hs hr1 hr2 hr3 hr hok hrx he1 he4 he5
def VoR (w : World) (k v : List UInt8) (e : Ending) (w' : World) : Prop := ∃ B d D f, e = .returned (.tuple #[.slice B k.length d, .slice D v.length f]) ∧ St w NoB w' [PcV.ch ⟨B, d, k⟩, PcV.ch ⟨D, f, v⟩]
noncomputable def vouK (y p b : List UInt8) : List UInt8 := if y.length ≠ 32 then [] else if p.length ≠ 32 then [] else if 65536 < b.length then [] else pubL y
noncomputable def vouV (y p b : List UInt8) : List UInt8 := if y.length ≠ 32 then [] else if p.length ≠ 32 then [] else if 65536 < b.length then [] else sigL y (b ++ p)
theorem vou_nil (w : World) : VoR w [] [] (.returned (.tuple #[.slice none 0 0, .slice none 0 0])) w := ⟨none, 0, none, 0, rfl, ((St.init w NoB).row (Below.refl _ _) (World.ownsRow_nil _ _ _ _)).row (Below.refl _ _) (World.ownsRow_nil _ _ _ _)⟩
theorem vouch_bad1 (A1 A2 A3 : Option Addr) (m1 m2 m3 c1 c2 c3 : Nat) (w : World) (hne : m1 ≠ 32) : Calls Tryz.prog 15 #[.slice A1 m1 c1, .slice A2 m2 c2, .slice A3 m3 c3] w (VoR w [] []) := by
 go_enter Tryz.func15, Tryz.ntmps15
 go_wp2_with (go_at_call 31; (with_reducible refine (seed_no _ _ _ _ hne).mono ?_); rintro e wy ⟨rfl, rfl⟩)
 go_ret2
 exact vou_nil w
theorem vouch_bad2 (A1 A2 A3 : Option Addr) (m2 m3 c1 c2 c3 : Nat) (w : World) (hne : m2 ≠ 32) : Calls Tryz.prog 15 #[.slice A1 32 c1, .slice A2 m2 c2, .slice A3 m3 c3] w (VoR w [] []) := by
 have q0 : ((m2 : Int) != 32) = true := by simp; omega
 go_enter Tryz.func15, Tryz.ntmps15
 go_wp2_with (go_at_call 31; (with_reducible refine (seed_yes _ _ _).mono ?_); rintro e wy ⟨rfl, rfl⟩)
 go_ret2
 exact vou_nil w
theorem vouch_ok (A1 A2 A3 : Option Addr) (c1 c2 c3 n : Nat) (y p b : List UInt8) (w : World) (hy : y.length = 32) (hp : p.length = 32) (hb : b.length = n) (hn : n ≤ 10000) (hry : Rd w (.slice A1 32 c1) 1 32 (bvs y)) (hrp : Rd w (.slice A2 32 c2) 1 32 (bvs p)) (hrb : Rd w (.slice A3 n c3) 1 n (bvs b)) :
  Calls Tryz.prog 15 #[.slice A1 32 c1, .slice A2 32 c2, .slice A3 n c3] w (VoR w (pubL y) (sigL y (b ++ p))) := by
 have HS := hide (St.init w NoB)
 have HY := hide hy
 have HP := hide hp
 have HB := hide hb
 have HRY := hide hry
 have HRP := hide hrp
 have HRB := hide hrb
 clear hy hp hb hry hrp hrb
 have HM := hide (len_add HB.out HP.out)
 have d1 : decide ((65536 : Int) < (n : Int)) = false := by simp; omega
 go_enter Tryz.func15, Tryz.ntmps15
 have M0 := True.intro
 go_wp2_with (first
  | (clear M2; go_at_call 49; (with_reducible refine (sign_32 _ _ _ _ _ _ _ _ HY.out HM.out (by omega) (HRY.out.below HS.out.below) (HS.out.rd 0 rfl)).mono ?_); rintro e wy ⟨D, f, rfl, hb, ho⟩; have HS := hide (HS.out.row hb ho); clear ho hb; have M3 := True.intro)
  | (clear M1; go_at_call 50; (with_reducible refine (concat2 _ HB.out HP.out (by omega) (HRB.out.below HS.out.below) (HRP.out.below HS.out.below)).mono ?_); rintro e wy ⟨Bm, dm, rfl, hb, ho⟩; have HS := hide ((HS.out.skip _).row hb ho); clear ho hb; have M2 := True.intro)
  | (clear M0; go_at_call 11; (with_reducible refine (pub_32 _ _ _ _ HY.out (HRY.out.below HS.out.below)).mono ?_); rintro e wy ⟨B, d, rfl, hb, ho⟩; have HS := hide (HS.out.row hb ho); clear ho hb; have M1 := True.intro)
  | (go_at_call 31; (with_reducible refine (seed_yes _ _ _).mono ?_); rintro e wy ⟨rfl, rfl⟩))
 go_ret2
 refine ⟨B, d, D, f, ?_, ?_⟩
 ·rw [pubL_len, sigL_len]
  rfl
 ·unfold PcV.ch PcV.v
  rw [pubL_len, sigL_len]
  exact HS.out.pickL [2, 0] (by decide) rfl
theorem vouch_any (A1 A2 A3 : Option Addr) (m1 m2 n c1 c2 c3 : Nat) (y p b : List UInt8) (w : World) (hy : y.length = m1) (hp : p.length = m2) (hb : b.length = n) (hn : n ≤ 10000) (hry : Rd w (.slice A1 m1 c1) 1 m1 (bvs y)) (hrp : Rd w (.slice A2 m2 c2) 1 m2 (bvs p)) (hrb : Rd w (.slice A3 n c3) 1 n (bvs b)) :
  Calls Tryz.prog 15 #[.slice A1 m1 c1, .slice A2 m2 c2, .slice A3 n c3] w (VoR w (vouK y p b) (vouV y p b)) := by
 unfold vouK vouV
 by_cases h1 : y.length ≠ 32
 ·rw [if_pos h1, if_pos h1]
  exact vouch_bad1 _ _ _ _ _ _ _ _ _ _ (by omega)
 rw [if_neg h1, if_neg h1]
 obtain rfl : m1 = 32 := by omega
 by_cases h2 : p.length ≠ 32
 ·rw [if_pos h2, if_pos h2]
  exact vouch_bad2 _ _ _ _ _ _ _ _ _ (by omega)
 rw [if_neg h2, if_neg h2]
 obtain rfl : m2 = 32 := by omega
 rw [if_neg (by omega), if_neg (by omega)]
 exact vouch_ok _ _ _ _ _ _ _ _ _ _ _ (by omega) (by omega) hb hn hry hrp hrb
end Go.Proofs.YtnohmgpmmhlloaaGreatDoor

namespace Go.Proofs.YtnohmgpmmhlloaaGreatDoor
open Go.RowKit
set_option linter.unusedSimpArgs false
noncomputable def sealRz (t : Tp) : Rz := match t.l.getLast? with
 | none => ⟨1, tp0⟩
 | some x => if t.e.length ≠ 32 then ⟨13, tp0⟩ else ⟨0, sealK t x⟩
theorem seal_bad1 (A1 A2 A3 A : Option Addr) (m1 m2 m3 c1 c2 c3 c : Nat) (w : World)  : Calls Tryz.prog 19 #[.agg #[.slice A1 m1 c1, .slice A 0 c, .slice A2 m2 c2, .slice A3 m3 c3]] w (TkE w 1) := by
 have hS0 := ((St.init w NoB).alloc #[.slice A1 m1 c1, .slice A 0 c, .slice A2 m2 c2, .slice A3 m3 c3] 26).alloc #[.slice none 0 0, .slice none 0 0, .slice none 0 0, .slice none 0 0] 26
 rw [size_alloc1] at hS0
 have HS := hide hS0
 clear hS0
 have t1 : _ = some (Value.slice A 0 c) := HS.out.cell 1 rfl 1
 have t2 : _ = some (Value.slice A2 m2 c2) := HS.out.cell 1 rfl 2
 go_enter Tryz.func19, Tryz.ntmps19
 go_wp2_with (first
  | (refine wl_storeC rfl rfl HS.out 0 rfl (vs := [.slice none 0 0, .slice none 0 0, .slice none 0 0, .slice none 0 0]) szToken (Nat.le_refl _) rfl rfl one4 ?_; intro w7 hS7; have HS7 := hide hS7; clear hS7))
 refine bodyPost_ret (results_cell_tmp_row rfl _ _ (w.heap.size + 1) _ _ _ _ rfl (HS7.out.heap 0 rfl) Tryz.underlying26 rfl (by kernel_rfl)) rfl ?_
 exact ⟨rfl, HS7.out.below⟩
theorem seal_bad2 (A1 A2 A3 A : Option Addr) (m1 m2 m3 n c1 c2 c3 c : Nat) (w : World) (hn : 0 < n) (hne : m2 ≠ 32) : Calls Tryz.prog 19 #[.agg #[.slice A1 m1 c1, .slice A n c, .slice A2 m2 c2, .slice A3 m3 c3]] w (TkE w 13) := by
 have hS0 := ((St.init w NoB).alloc #[.slice A1 m1 c1, .slice A n c, .slice A2 m2 c2, .slice A3 m3 c3] 26).alloc #[.slice none 0 0, .slice none 0 0, .slice none 0 0, .slice none 0 0] 26
 rw [size_alloc1] at hS0
 have HS := hide hS0
 clear hS0
 have t1 : _ = some (Value.slice A n c) := HS.out.cell 1 rfl 1
 have t2 : _ = some (Value.slice A2 m2 c2) := HS.out.cell 1 rfl 2
 have d2 : ((n : Int) == 0) = false := by simp; omega
 have d2' : decide ((n : Int) = 0) = false := by simp; omega
 go_enter Tryz.func19, Tryz.ntmps19
 go_wp2_with (first
  | (refine wl_storeC rfl rfl HS.out 0 rfl (vs := [.slice none 0 0, .slice none 0 0, .slice none 0 0, .slice none 0 0]) szToken (Nat.le_refl _) rfl rfl one4 ?_; intro w7 hS7; have HS7 := hide hS7; clear hS7)
  | (go_at_call 31; (with_reducible refine (seed_no _ _ _ _ hne).mono ?_); rintro e wy ⟨rfl, rfl⟩))
 refine bodyPost_ret (results_cell_tmp_row rfl _ _ (w.heap.size + 1) _ _ _ _ rfl (HS7.out.heap 0 rfl) Tryz.underlying26 rfl (by kernel_rfl)) rfl ?_
 exact ⟨rfl, HS7.out.below⟩
theorem seal_ok (A1 A2 A3 A : Option Addr) (m1 m3 n c1 c2 c3 c : Nat) (l1 l2 l3 : List UInt8) (l : List Sg) (w : World) (hl1 : l1.length = m1) (hl2 : l2.length = 32) (hl3 : l3.length = m3) (hl : l.length = n + 1) (hn : n ≤ 100) (hm1 : m1 ≤ 1000000) (hm3 : m3 ≤ 1000000) (hs : ∀ x ∈ l, x.p.sm) (hs7 : ∀ x ∈ l, x.b.b.length ≤ 70000 ∧ x.n.b.length ≤ 10000 ∧ x.s.b.length ≤ 10000 ∧ x.k.b.length ≤ 10000 ∧ x.v.b.length ≤ 10000)
  (hr1 : Rd w (.slice A1 m1 c1) 1 m1 (bvs l1)) (hr2 : Rd w (.slice A2 32 c2) 1 32 (bvs l2)) (hr3 : Rd w (.slice A3 m3 c3) 1 m3 (bvs l3)) (hr : Rd w (.slice A (n + 1) c) 5 (n + 1) (sgCells l)) (hok : ∀ x ∈ l, SgOK w x) (z : Sg) (hz : l[n]? = some z) :
  Calls Tryz.prog 19 #[.agg #[.slice A1 m1 c1, .slice A (n + 1) c, .slice A2 32 c2, .slice A3 m3 c3]] w (TkG w (sealK ⟨l1, l.map Sg.p, l2, l3⟩ z.p)) := by
 have hS0 := ((St.init w NoB).alloc #[.slice A1 m1 c1, .slice A (n + 1) c, .slice A2 32 c2, .slice A3 m3 c3] 26).alloc #[.slice none 0 0, .slice none 0 0, .slice none 0 0, .slice none 0 0] 26
 rw [size_alloc1] at hS0
 have HS := hide hS0
 clear hS0
 have HL1 := hide hl1
 have HL2 := hide hl2
 have HL3 := hide hl3
 have HL := hide hl
 have HSS := hide hs
 have HS7 := hide hs7
 have HR1 := hide hr1
 have HR2 := hide hr2
 have HR3 := hide hr3
 have HR := hide hr
 have HOK := hide hok
 have HZ := hide hz
 clear hl1 hl2 hl3 hl hs hs7 hr1 hr2 hr3 hr hok hz
 have d2 : (((n + 1 : Nat) : Int) == 0) = false := by simp; omega
 have d2' : decide (((n + 1 : Nat) : Int) = 0) = false := by simp; omega
 have t0 : _ = some (Value.slice A1 m1 c1) := HS.out.cell 1 rfl 0
 have t1 : _ = some (Value.slice A (n + 1) c) := HS.out.cell 1 rfl 1
 have t2 : _ = some (Value.slice A2 32 c2) := HS.out.cell 1 rfl 2
 have t3 : _ = some (Value.slice A3 m3 c3) := HS.out.cell 1 rfl 3
 go_enter Tryz.func19, Tryz.ntmps19
 have M0 := True.intro
 go_upto_region 6 with (first
  | (clear M1; refine wl_storeC rfl rfl HS.out 1 rfl (vs := [.slice B1 m1 d1, .slice X (n + 1) x, .slice B2 32 d2x, .slice B3 m3 d3]) szToken (Nat.le_refl _) rfl rfl one4 ?_; intro w5 hS5; have HS := hide hS5; clear hS5; have M2 := True.intro)
  | (clear M0; go_at_call 52; (with_reducible refine (token_core _ _ _ _ _ _ _ _ _ _ _ _ _ _ _ _ _ HL1.out HL2.out HL3.out HL.out hm1 (by omega) hm3 (by omega) (HR1.out.below HS.out.below) (HR2.out.below HS.out.below) (HR3.out.below HS.out.below) (HR.out.below HS.out.below) (fun x hx => (HOK.out x hx).on HS.out.below) HSS.out).mono ?_); rintro e wy ⟨B1, d1, X, x, B2, d2x, B3, d3, zs, G, rfl, hzl, hp, hG, hSz⟩; have HS := hide (St.rot _ _ (HS.out.join hSz)); clear hSz; have HZL := hide hzl; have HP := hide hp; have HG := hide hG; clear hp hG hzl; have M1 := True.intro)
  | (go_at_call 31; (with_reducible refine (seed_yes _ _ _).mono ?_); rintro e wy ⟨rfl, rfl⟩))
 have HS : Hid (St w NoB w5 (.cells (w.heap.size + 1) #[.slice none 0 0, .slice none 0 0, .slice none 0 0, .slice none 0 0] 26 :: .cells w.heap.size #[.slice B1 m1 d1, .slice X (n + 1) x, .slice B2 32 d2x, .slice B3 m3 d3] 26 :: .row (.slice X (n + 1) x) 32 5 (n + 1) (sgCells zs) :: .row (.slice B1 m1 d1) 5 1 m1 (bvs l1) :: .row (.slice B2 32 d2x) 5 1 32 (bvs l2) :: .row (.slice B3 m3 d3) 5 1 m3 (bvs l3) :: G)) := HS
 clear t0 t1 t2 t3
 have hzn : n < zs.length := by rw [HZL.out]; omega
 have hlk : zs[n]? = some zs[n] := List.getElem?_eq_getElem hzn
 have hpz : (zs[n]).p = z.p := by
  have e1 : (zs.map Sg.p)[n]? = (l.map Sg.p)[n]? := by rw [HP.out]
  rw [List.getElem?_map, List.getElem?_map, hlk, HZ.out] at e1
  exact Option.some.inj e1
 have hmz := HG.out _ (List.getElem_mem hzn)
 have hbz := HS7.out z (List.mem_of_getElem? HZ.out)
 generalize zs[n] = y at hlk hpz hmz
 obtain ⟨⟨E1, f1, y1⟩, ⟨E2, f2, y2⟩, ⟨E3, f3, y3⟩, ⟨E4, f4, y4⟩, ⟨E5, f5, y5⟩⟩ := y
 obtain ⟨⟨_, _, z1⟩, ⟨_, _, z2⟩, ⟨_, _, z3⟩, ⟨_, _, z4⟩, ⟨_, _, z5⟩⟩ := z
 obtain ⟨g1, g2, g3, g4, g5⟩ := Sp.mk.inj (show Sp.mk y1 y2 y3 y4 y5 = Sp.mk z1 z2 z3 z4 z5 from hpz)
 subst g1 g2 g3 g4 g5
 obtain ⟨b1, b2, b3, b4, b5⟩ := (show y1.length ≤ 70000 ∧ y2.length ≤ 10000 ∧ y3.length ≤ 10000 ∧ y4.length ≤ 10000 ∧ y5.length ≤ 10000 from hbz)
 clear hpz hbz
 obtain ⟨bb, o, rfl, hb8, hc⟩ := sg_at (HS.out.rd 2 rfl) hlk
 have HSG := hide (SgIn.ok HS.out hmz (fun c hc => (by show c ∈ _ :: _ :: _ :: _ :: _ :: _ :: G; (iterate 6 apply List.mem_cons_of_mem); exact hc)))
 have HE1 : Hid (Rd w5 (.slice E1 y1.length f1) 1 y1.length (bvs y1)) := hide HSG.out.b
 have HE2 : Hid (Rd w5 (.slice E2 y2.length f2) 1 y2.length (bvs y2)) := hide HSG.out.n
 have HE3 : Hid (Rd w5 (.slice E3 y3.length f3) 1 y3.length (bvs y3)) := hide HSG.out.s
 have HE4 : Hid (Rd w5 (.slice E4 y4.length f4) 1 y4.length (bvs y4)) := hide HSG.out.k
 have HE5 : Hid (Rd w5 (.slice E5 y5.length f5) 1 y5.length (bvs y5)) := hide HSG.out.v
 clear HSG hlk hzn
 refine wp_region_T [(0, 1), (1, 0), (2, 1), (3, 0), (4, 1), (5, 0), (6, 1), (7, 1), (8, 1), (9, 0), (10, 2), (11, 2), (12, 1), (13, 3)] (by kernel_rfl) (by kernel_rfl) (fun _ _ _ _ h => h) ?_
 have HSD := hide (St.init w5 NoB).drew
 have HS := hide HS.out.drew
 obtain ⟨k0, k1, k2, k3, k4⟩ := hc _ HSD.out.below
 clear hc hb8
 generalize hwd : w5.drew = w6 at HS HSD k0 k1 k2 k3 k4 ⊢
 have t1 : _ = some (Value.slice (some ⟨bb, o, none⟩) (n + 1) x) := HS.out.cell 1 rfl 1
 have t2 : _ = some (Value.slice B2 32 d2x) := HS.out.cell 1 rfl 2
 have HE1 := hide (HE1.out.below HSD.out.below)
 have HE2 := hide (HE2.out.below HSD.out.below)
 have HE3 := hide (HE3.out.below HSD.out.below)
 have HE4 := hide (HE4.out.below HSD.out.below)
 have HE5 := hide (HE5.out.below HSD.out.below)
 have HM := hide (len_add3 (rfl : y1.length = _) (rfl : y2.length = _) (rfl : y3.length = _))
 have en : ((n + 1 : Nat) : Int) - 1 = (n : Int) := by omega
 have en2 : (n : Int) + 1 - 1 = (n : Int) := by omega
 have nn : (n : Int) < (n : Int) + 1 := by omega
 have nn2 : n < n + 1 := by omega
 have nn3 : decide ((n : Int) < (n : Int) + 1) = true := by simp; omega
 have nn4 : decide (n < n + 1) = true := by simp
 have M0 := True.intro
 go_upto_region 7 with (first
  | (clear M1; go_at_call 49; (with_reducible refine (sign_32 _ _ _ _ _ _ _ _ HL2.out HM.out (by omega) (HS.out.rd 5 rfl) (HS.out.rd 0 rfl)).mono ?_); rintro e w8 ⟨Bg, dg, rfl, hb, ho⟩; have HS := hide (HS.out.row hb ho); clear ho; have q3 : _ = some (Value.slice B3 m3 d3) := HS.out.cell 3 rfl 3; have g3 := HS.out.free 3 rfl 3; have M2 := True.intro)
  | (clear M0; go_at_call 53; (with_reducible refine (sealed_core _ _ _ _ _ _ _ _ _ _ _ _ _ _ _ _ _ _ _ _ _ rfl b1 HE1.out rfl (by omega) HE2.out rfl (by omega) HE3.out rfl (by omega) HE4.out rfl (by omega) HE5.out).mono ?_); rintro e w7 ⟨Bm, dm, rfl, hb, ho⟩; have HS := hide (HS.out.row hb ho); clear ho; have M1 := True.intro)
  | (refine wpT_nil ?_)   | ((with_reducible refine fromT_refl ?_); (try simp only [Act.put, nq1, nq2, nq3, nq4, nq5, nq6]))   | ((with_reducible refine fromT_mk (by assumption) ?_); (try simp only [Act.put, nq1, nq2, nq3, nq4, nq5, nq6]))   | (refine wpT_pure (v := ?_) rfl rfl ?_ ?_; rotate_left; (intro wx; go_simp; try go_bits) <;> (with_reducible rfl); (try simp only [Act.put, nq1, nq2, nq3, nq4, nq5, nq6]))   | (refine wpT_load (v := ?_) rfl rfl rfl ?_ ?_; rotate_left; (go_simp; try go_bits) <;> (with_reducible rfl); (try simp only [Act.put, nq1, nq2, nq3, nq4, nq5, nq6]))   | (refine wpT_read (v := ?_) rfl rfl ?_ ?_; rotate_left; (intro wx hx; go_simp; try go_bits) <;> (with_reducible rfl); (try simp only [Act.put, nq1, nq2, nq3, nq4, nq5, nq6]))   | (refine wpT_call rfl rfl ?_; intro K hK)   | (refine wpT_late rfl rfl ?_; intro K hK)   | (refine wpT_any rfl rfl ?_; intro K hK)   | (refine wpT_skip rfl rfl ?_; (try simp only [Act.put, nq1, nq2, nq3, nq4, nq5, nq6])))
 have HS := hide (HS.out.setCell 3 rfl 3 (.slice Bg 64 dg))
 clear q3 g3 t1 t2 k0 k1 k2 k3 k4
 generalize World.setCell w8 _ _ = w9 at HS ⊢
 have q2 : _ = some (Value.slice B2 32 d2x) := HS.out.cell 3 rfl 2
 have g2 := HS.out.free 3 rfl 2
 go_upto_region 8 with fail
 have HS := hide (HS.out.setCell 3 rfl 2 (.slice none 0 0))
 clear q2 g2
 generalize World.setCell w9 _ _ = wa at HS ⊢
 have t0 : _ = some (Value.slice B1 m1 d1) := HS.out.cell 3 rfl 0
 have t1 : _ = some (Value.slice (some ⟨bb, o, none⟩) (n + 1) x) := HS.out.cell 3 rfl 1
 have t2 : _ = some (Value.slice none 0 0) := HS.out.cell 3 rfl 2
 have t3 : _ = some (Value.slice Bg 64 dg) := HS.out.cell 3 rfl 3
 go_wp2_with (refine wl_storeC rfl rfl HS.out 2 rfl (vs := [.slice B1 m1 d1, .slice (some ⟨bb, o, none⟩) (n + 1) x, .slice none 0 0, .slice Bg 64 dg]) szToken (Nat.le_refl _) rfl rfl one4 ?_; intro wz hS9; have HS7 := hide hS9; clear hS9)
 refine bodyPost_ret (results_cell_tmp_row rfl _ _ (w.heap.size + 1) _ _ _ _ rfl (HS7.out.heap 2 rfl) Tryz.underlying26 rfl (by kernel_rfl)) rfl ?_
 refine ⟨⟨⟨B1, d1, l1⟩, some ⟨bb, o, none⟩, x, zs, pc0, ⟨Bg, dg, sigL l2 (y1 ++ (y2 ++ y3))⟩⟩, _, ?_, ?_, ⟨List.mem_cons_of_mem _ (pc_ch HL1.out 5 rfl), List.mem_cons_of_mem _ ?_, fun v hv => ?_, List.mem_cons_self .., List.mem_cons_of_mem _ (pc_ch (sigL_len _ _) 0 rfl)⟩, HS7.out.row (Below.refl _ _) (World.ownsRow_nil _ _ _ _)⟩
 ·rw [Tk.val_eq]
  simp only [HL1.out, HZL.out, sigL_len]
  rfl
 ·show Tp.mk l1 (List.map Sg.p zs) [] _ = _
  unfold sealK
  rw [HP.out]
  rfl
 ·show Chunk.row (.slice (some ⟨bb, o, none⟩) zs.length x) _ 5 zs.length _ ∈ _
  rw [HZL.out]
  exact List.mem_of_getElem? (i := 4) rfl
 ·intro c hc
  have hc := HG.out v hv c hc
  show c ∈ _ :: _ :: _ :: _ :: _ :: _ :: _ :: _ :: _ :: G
  (iterate 9 apply List.mem_cons_of_mem)
  exact hc
theorem last_map {l : List Sg} {z : Sg} {n : Nat} (hl : l.length = n + 1) (hz : l[n]? = some z) : (l.map Sg.p).getLast? = some z.p := by
 rw [List.getLast?_map, List.getLast?_eq_getElem?, hl, Nat.add_sub_cancel, hz]
 rfl
theorem seal_any (A1 A2 A3 A : Option Addr) (m1 m2 m3 n c1 c2 c3 c : Nat) (l1 l2 l3 : List UInt8) (l : List Sg) (w : World) (hl1 : l1.length = m1) (hl2 : l2.length = m2) (hl3 : l3.length = m3) (hl : l.length = n) (hn : n ≤ 100) (hm1 : m1 ≤ 1000000) (hm3 : m3 ≤ 1000000) (hs : ∀ x ∈ l, x.p.sm) (hs7 : ∀ x ∈ l, x.b.b.length ≤ 70000 ∧ x.n.b.length ≤ 10000 ∧ x.s.b.length ≤ 10000 ∧ x.k.b.length ≤ 10000 ∧ x.v.b.length ≤ 10000)
  (hr1 : Rd w (.slice A1 m1 c1) 1 m1 (bvs l1)) (hr2 : Rd w (.slice A2 m2 c2) 1 m2 (bvs l2)) (hr3 : Rd w (.slice A3 m3 c3) 1 m3 (bvs l3)) (hr : Rd w (.slice A n c) 5 n (sgCells l)) (hok : ∀ x ∈ l, SgOK w x) :
  Calls Tryz.prog 19 #[.agg #[.slice A1 m1 c1, .slice A n c, .slice A2 m2 c2, .slice A3 m3 c3]] w (TkQ w (sealRz ⟨l1, l.map Sg.p, l2, l3⟩)) := by
 by_cases h1 : n = 0
 ·subst h1
  have e := List.eq_nil_of_length_eq_zero hl
  subst e
  exact (seal_bad1 _ _ _ _ _ _ _ _ _ _ _ _).mono fun _ _ h => tkQ_no h
 obtain ⟨m, rfl⟩ : ∃ m, n = m + 1 := ⟨n - 1, by omega⟩
 have hz : l[m]? = some (l[m]'(by omega)) := List.getElem?_eq_getElem (by omega)
 unfold sealRz
 show Calls _ _ _ _ (TkQ w (match (l.map Sg.p).getLast? with | none => _ | some x => if l2.length ≠ 32 then _ else _))
 rw [last_map hl hz]
 show Calls _ _ _ _ (TkQ w (if l2.length ≠ 32 then _ else _))
 by_cases h2 : l2.length ≠ 32
 ·rw [if_pos h2]
  exact (seal_bad2 _ _ _ _ _ _ _ _ _ _ _ _ _ (by omega) (by omega)).mono fun _ _ h => tkQ_no h
 rw [if_neg h2]
 obtain rfl : m2 = 32 := by omega
 exact (seal_ok _ _ _ _ _ _ _ _ _ _ _ _ _ _ _ _ hl1 hl2 hl3 hl (by omega) hm1 hm3 hs hs7 hr1 hr2 hr3 hr hok _ hz).mono fun _ _ h => tkQ_ok h
end Go.Proofs.YtnohmgpmmhlloaaGreatDoor

namespace Go.Proofs.YtnohmgpmmhlloaaGreatDoor
open Go.RowKit
set_option linter.unusedSimpArgs false
def Laid (G : List Chunk) (p : Tp) (B1 : Option Addr) (m1 d1 : Nat) (X : Option Addr) (n x : Nat) (B2 : Option Addr) (m2 d2 : Nat) (B3 : Option Addr) (m3 d3 : Nat) : Prop :=
 ∃ k1 k2 k3 zs, k1.length = m1 ∧ zs.length = n ∧ k2.length = m2 ∧ k3.length = m3 ∧ Tp.mk k1 (zs.map Sg.p) k2 k3 = p ∧ TkIn G ⟨⟨B1, d1, k1⟩, X, x, zs, ⟨B2, d2, k2⟩, ⟨B3, d3, k3⟩⟩
section
variable {G G' : List Chunk} {p : Tp} {B1 X B2 B3 : Option Addr} {m1 d1 n x m2 d2 m3 d3 : Nat}
theorem Laid.mono (h : Laid G p B1 m1 d1 X n x B2 m2 d2 B3 m3 d3) (hs : ∀ c ∈ G, c ∈ G') : Laid G' p B1 m1 d1 X n x B2 m2 d2 B3 m3 d3 := by
 obtain ⟨k1, k2, k3, zs, h1, h2, h3, h4, h5, h6⟩ := h
 exact ⟨k1, k2, k3, zs, h1, h2, h3, h4, h5, h6.mono hs⟩
theorem Laid.open {w0 w : World} {M : Nat → Prop} (hS : St w0 M w G) (h : Laid G p B1 m1 d1 X n x B2 m2 d2 B3 m3 d3) : ∃ zs, zs.length = n ∧ zs.map Sg.p = p.l ∧ p.r.length = m1 ∧ p.e.length = m2 ∧ p.z.length = m3 ∧ Rd w (.slice B1 m1 d1) 1 m1 (bvs p.r) ∧ Rd w (.slice B2 m2 d2) 1 m2 (bvs p.e) ∧ Rd w (.slice B3 m3 d3) 1 m3 (bvs p.z) ∧ Rd w (.slice X n x) 5 n (sgCells zs) ∧ ∀ y ∈ zs, SgOK w y := by
 obtain ⟨k1, k2, k3, zs, h1, h2, h3, h4, h5, h6⟩ := h
 subst h1 h2 h3 h4 h5
 have hk := h6.ok hS
 exact ⟨zs, rfl, rfl, rfl, rfl, rfl, hk.r, hk.e, hk.z, hk.row, hk.l⟩
end
def TkS (w : World) (c : Nat) (p : Tp) (m1 n m2 m3 : Nat) (e : Ending) (w' : World) : Prop := ∃ B1 d1 X x B2 d2 B3 d3 G, e = .returned (.tuple #[.agg #[.slice B1 m1 d1, .slice X n x, .slice B2 m2 d2, .slice B3 m3 d3], .int .i64 (c : Int)]) ∧ Laid G p B1 m1 d1 X n x B2 m2 d2 B3 m3 d3 ∧ St w NoB w' G
theorem tkS_of {w : World} {r : Rz} {e : Ending} {w' : World} {m1 n m2 m3 : Nat} (h : TkQ w r e w') (h1 : r.p.r.length = m1) (h2 : r.p.l.length = n) (h3 : r.p.e.length = m2) (h4 : r.p.z.length = m3) : TkS w r.c r.p m1 n m2 m3 e w' := by
 obtain ⟨⟨⟨B1, d1, k1⟩, X, x, zs, ⟨B2, d2, k2⟩, ⟨B3, d3, k3⟩⟩, G, rfl, hp, hg, hS⟩ := h
 replace hp : Tp.mk k1 (zs.map Sg.p) k2 k3 = r.p := hp
 have q1 : k1.length = m1 := by rw [← h1, ← hp]
 have q2 : zs.length = n := by rw [← h2, ← hp]; exact (List.length_map ..).symm
 have q3 : k2.length = m2 := by rw [← h3, ← hp]
 have q4 : k3.length = m3 := by rw [← h4, ← hp]
 refine ⟨B1, d1, X, x, B2, d2, B3, d3, G, ?_, ⟨k1, k2, k3, zs, q1, q2, q3, q4, hp, hg⟩, hS⟩
 show Ending.returned (.tuple #[.agg #[.slice B1 k1.length d1, .slice X zs.length x, .slice B2 k2.length d2, .slice B3 k3.length d3], _]) = _
 rw [q1, q2, q3, q4]
theorem sm_mem {p : Tp} {zs : List Sg} (h : p.sm) (hz : zs.map Sg.p = p.l) : ∀ x ∈ zs, x.p.sm := fun x hx => h.2.2.2.2 _ (by rw [← hz]; exact List.mem_map_of_mem hx)
section
variable {w0 w : World} {M : Nat → Prop} {H : List Chunk} {p : Tp}
theorem append_in {nx y1 : List UInt8} {r : Rz} {M1 N M2 M3 : Nat} {B1 X B2 B3 Ax E1 : Option Addr} {m1 d1 n x m2 d2 m3 d3 q cx n1 f1 : Nat} (hS : St w0 M w H) (hL : Laid H p B1 m1 d1 X n x B2 m2 d2 B3 m3 d3) (hsm : p.sm) (hx : nx.length = q) (hg1 : y1.length = n1) (hrx : Rd w (.slice Ax q cx) 1 q (bvs nx)) (he1 : Rd w (.slice E1 n1 f1) 1 n1 (bvs y1))
  (hr : addRz p nx ⟨y1, [], [], [], []⟩ = r) (h1 : r.p.r.length = M1) (h2 : r.p.l.length = N) (h3 : r.p.e.length = M2) (h4 : r.p.z.length = M3) :
  Calls Tryz.prog 21 #[.agg #[.slice B1 m1 d1, .slice X n x, .slice B2 m2 d2, .slice B3 m3 d3], .slice Ax q cx, .slice E1 n1 f1] w (TkS w r.c r.p M1 N M2 M3) := by
 obtain ⟨zs, e1, e2, e3, e4, e5, r1, r2, r3, r4, hok⟩ := hL.open hS
 obtain ⟨pr, pl, pe, pz⟩ := p
 subst e2
 have h := append_any B1 B2 B3 X Ax E1 m1 m2 m3 n q n1 d1 d2 d3 x cx f1 pr pe pz nx zs y1 w e3 e4 e5 e1 hx hg1 (by have := hsm.1; rw [← e3]; exact this) (by have := hsm.2.2.1; rw [← e5]; exact this) (sm_mem hsm rfl) r1 r2 r3 r4 hok hrx he1
 rw [hr] at h
 exact h.mono fun _ _ h => tkS_of h h1 h2 h3 h4
end
end Go.Proofs.YtnohmgpmmhlloaaGreatDoor

namespace Go.Proofs.YtnohmgpmmhlloaaGreatDoor
open Go.RowKit
set_option linter.unusedSimpArgs false
section
variable {P : Program} {ops : Array Oper} {Q : Exit → Act → World → Prop} {restT : List (Nat × Nat)} {i : Nat} {o : Oper} {a : Act} {w : World} {W0 : World} {F : List (Nat × Nat)} {fc : Array Value} {fe : TypeId} {suf : STr}
end
theorem rd_halves {w : World} {C : Option Addr} {c : Nat} {g : List UInt8} (hl : g.length = 64) (h : Rd w (.slice C 64 c) 1 64 (bvs g)) : ∃ b o, C = some ⟨b, o, none⟩ ∧ 64 ≤ c ∧ Rd w (.slice (some ⟨b, o, none⟩) 32 c) 1 32 (bvs (g.take 32)) ∧ Rd w (.slice (some ⟨b, o + 32, none⟩) 32 (c - 32)) 1 32 (bvs (g.drop 32)) := by
 obtain ⟨b, o, rfl⟩ := S1.rd_some h (by decide)
 have h2 := rd_mid h 32 64 (by decide) (by decide)
 rw [List.take_of_length_le (by rw [List.length_drop, hl]; exact Nat.le_refl _)] at h2
 exact ⟨b, o, rfl, rd_cap h, rd_take h 32 (by decide), h2⟩
end Go.Proofs.YtnohmgpmmhlloaaGreatDoor

namespace Go.Proofs.YtnohmgpmmhlloaaGreatDoor
open Go.RowKit
set_option linter.unusedSimpArgs false

theorem wl_build4 {P : Program} {ops : Array Oper} {Q : Exit → Act → World → Prop} {rest : List Oper} {o : Oper} {a : Act} {w : World} {t : TypeId} {A : Array Value → Prop} {p q r s : Operand} {va vb vc vd : Array Value} (hgd : o.guard = none) (ho : o.op = .build t #[(0, p), (1, q), (2, r), (3, s)]) (h0 : a.eval p = .agg va) (h1 : a.eval q = .agg vb) (h2 : a.eval r = .agg vc) (h3 : a.eval s = .agg vd)
  (hB : BuildOf P t A) (ha : A va) (hb : A vb) (hc : A vc) (hd : A vd) (h : wpList P ops Q rest (a.put o.dst (.agg (quad va vb vc vd))) w) : wpList P ops Q (o :: rest) a w :=
 wpList_plain hgd fun K hK => by
  unfold Oper.wp
  rw [run_build4 ho h0 h1 h2 h3 hB ha hb hc hd w]
  exact hK _ _ h
theorem wl_build0 {P : Program} {ops : Array Oper} {Q : Exit → Act → World → Prop} {rest : List Oper} {o : Oper} {a : Act} {w : World} {t : TypeId} {v : Array Value} (hgd : o.guard = none) (ho : o.op = .build t #[])
  (hB : P.built t [] = some v) (h : wpList P ops Q rest (a.put o.dst (.agg v)) w) : wpList P ops Q (o :: rest) a w :=
 wpList_plain hgd fun K hK => by
  have e : (execOp a.eval o).run P w = .ok (.value (.agg v)) w := by
   have e2 : ((#[] : Array (Nat × Operand)).map fun (i, x) => (i, a.eval x)).toList = [] := by simp
   unfold execOp
   simp only [ho]
   simp only [Sem.run_bind, run_build w t _ _ (by rw [e2]; exact hB), Result.andThen_ok]
   rfl
  unfold Oper.wp
  rw [e]
  exact hK _ _ h
theorem build0N : Tryz.prog.built 130 [] = some #[.int .i64 0, .int .i64 0, .int .i64 0, .int .i64 0, .int .i64 0, .int .i64 0, .int .i64 0, .int .i64 0, .int .i64 0, .int .i64 0, .int .i64 0, .int .i64 0, .int .i64 0, .int .i64 0, .int .i64 0, .int .i64 0] := by kernel_rfl
theorem na_d : NA #[.int .i64 30883, .int .i64 4953, .int .i64 19914, .int .i64 30187, .int .i64 55467, .int .i64 16705, .int .i64 2637, .int .i64 112, .int .i64 59544, .int .i64 30585, .int .i64 16505, .int .i64 36039, .int .i64 65139, .int .i64 11119, .int .i64 27886, .int .i64 20995] dF := by
 have h := ne_of (37095705934669439343138083508754565189542113879843219016388785533085940283555) [30883, 4953, 19914, 30187, 55467, 16705, 2637, 112, 59544, 30585, 16505, 36039, 65139, 11119, 27886, 20995] rfl (by decide) (by decide +kernel)
 rw [show toF 37095705934669439343138083508754565189542113879843219016388785533085940283555 = dF from Fin.ext (by rw [dF_val]; show _ % Pq = _; unfold Pq; decide)] at h
 exact ⟨_, rfl, h⟩
theorem na_x : NA #[.int .i64 54554, .int .i64 36645, .int .i64 11616, .int .i64 51542, .int .i64 42930, .int .i64 38181, .int .i64 51040, .int .i64 26924, .int .i64 56412, .int .i64 64982, .int .i64 57905, .int .i64 49316, .int .i64 21502, .int .i64 52590, .int .i64 14035, .int .i64 8553] Bp.x := by
 have h := ne_of (15112221349535400772501151409588531511454012693041857206046113283949847762202) [54554, 36645, 11616, 51542, 42930, 38181, 51040, 26924, 56412, 64982, 57905, 49316, 21502, 52590, 14035, 8553] rfl (by decide) (by decide +kernel)
 rw [show toF 15112221349535400772501151409588531511454012693041857206046113283949847762202 = Bp.x from rfl] at h
 exact ⟨_, rfl, h⟩
theorem na_y : NA #[.int .i64 26200, .int .i64 26214, .int .i64 26214, .int .i64 26214, .int .i64 26214, .int .i64 26214, .int .i64 26214, .int .i64 26214, .int .i64 26214, .int .i64 26214, .int .i64 26214, .int .i64 26214, .int .i64 26214, .int .i64 26214, .int .i64 26214, .int .i64 26214] Bp.y := by
 have h := ne_of (46316835694926478169428394003475163141307993866256225615783033603165251855960) [26200, 26214, 26214, 26214, 26214, 26214, 26214, 26214, 26214, 26214, 26214, 26214, 26214, 26214, 26214, 26214] rfl (by decide) (by decide +kernel)
 rw [show toF 46316835694926478169428394003475163141307993866256225615783033603165251855960 = Bp.y from rfl] at h
 exact ⟨_, rfl, h⟩
theorem na_0 : NA #[.int .i64 0, .int .i64 0, .int .i64 0, .int .i64 0, .int .i64 0, .int .i64 0, .int .i64 0, .int .i64 0, .int .i64 0, .int .i64 0, .int .i64 0, .int .i64 0, .int .i64 0, .int .i64 0, .int .i64 0, .int .i64 0] 0 := na_zero
structure QtN (v : Array Value) (P : Ed) : Prop where
 ex : ∃ A a b c d, v = quad a b c d ∧ NA a A.X ∧ NA b A.Y ∧ NA c A.Z ∧ NA d A.T ∧ Rp A P
theorem QtN.arr {v : Array Value} {P : Ed} (h : QtN v P) : Arr 64 v := by
 obtain ⟨A, a, b, c, d, rfl, h2, h3, h4, h5, _⟩ := h.ex
 exact quad_arr h2.arr h3.arr h4.arr h5.arr rfl
def ResQ (w : World) (P : Ed) (e : Ending) (w' : World) : Prop := ∃ v, QtN v P ∧ e = .returned (.agg v) ∧ Below w.heap.size w w'
theorem dNA (w : World) : Calls Tryz.prog 158 #[] w (ResA w dF) := by
 have hc := na_d
 have HS := hide (St.init w NoB)
 go_enter Tryz.func158, Tryz.ntmps158
 go_wp2_with (first | (refine wl_loadP rfl rfl rfl HS.out (by (repeat first | exact .head _ | apply List.Mem.tail)) (by first | exact rowE | exact rowP | exact rowN | exact rowQ) (by (first | exact .q0 (EA.arr ‹_›) | exact .q1 (EA.arr ‹_›) (EA.arr ‹_›) | exact .q2 (EA.arr ‹_›) (EA.arr ‹_›) (EA.arr ‹_›) | exact .q3 (EA.arr ‹_›) (EA.arr ‹_›) (EA.arr ‹_›) (EA.arr ‹_›) | exact .q0 (NA.arr ‹_›) | exact .q1 (NA.arr ‹_›) (NA.arr ‹_›) | exact .q2 (NA.arr ‹_›) (NA.arr ‹_›) (NA.arr ‹_›) | exact .q3 (NA.arr ‹_›) (NA.arr ‹_›) (NA.arr ‹_›) (NA.arr ‹_›) | exact .all (by (first | exact EA.arr ‹_› | exact NA.arr ‹_› | exact arr_zE | exact arr_zN | exact arr_zP | exact arr_zQ | exact PtN.arr ‹_› | exact PtV.arr ‹_› | exact QtN.arr ‹_› | exact qE ‹_› ‹_› ‹_› ‹_› | exact qN ‹_› ‹_› ‹_› ‹_›)))) ?_; (try simp only [Act.put, nq1, nq2, nq3, nq4, nq5, nq6])) | (refine wl_storeR rfl rfl rfl rfl HS.out (by first | exact rowE | exact rowP | exact rowN | exact rowQ) (by (repeat first | exact .head | apply Upd.tail)) (by (first | exact EA.arr ‹_› | exact NA.arr ‹_› | exact arr_zE | exact arr_zN | exact arr_zP | exact arr_zQ | exact PtN.arr ‹_› | exact PtV.arr ‹_› | exact QtN.arr ‹_› | exact qE ‹_› ‹_› ‹_› ‹_› | exact qN ‹_› ‹_› ‹_› ‹_›)) (by (first | exact EA.arr ‹_› | exact NA.arr ‹_› | exact arr_zE | exact arr_zN | exact arr_zP | exact arr_zQ | exact PtN.arr ‹_› | exact PtV.arr ‹_› | exact QtN.arr ‹_› | exact qE ‹_› ‹_› ‹_› ‹_› | exact qN ‹_› ‹_› ‹_› ‹_›)) ?_; intro wz hS9; have HS := hide hS9; clear hS9; (try simp only [Act.put, nq1, nq2, nq3, nq4, nq5, nq6])) | (refine wl_allocR rfl rfl HS.out (by first | exact newE | exact newP | exact newN | exact newQ) ?_; intro gz wz hS9; have HS := hide hS9; clear hS9; (try simp only [Act.put, nq1, nq2, nq3, nq4, nq5, nq6])) | (refine wl_boxR rfl rfl rfl HS.out ?_; intro gz wz hS9; have HS := hide hS9; clear hS9; (try simp only [Act.put, nq1, nq2, nq3, nq4, nq5, nq6])))
 refine bodyPost_ret (results_cell_row rfl _ _ _ _ _ _ _ rfl (HS.out.heapM (by (repeat first | exact .head _ | apply List.Mem.tail))) Tryz.underlying130 rfl (by first | (rw [(EA.arr ‹_›).size]; kernel_rfl) | (rw [(NA.arr ‹_›).size]; kernel_rfl) | (rw [(qE ‹_› ‹_› ‹_› ‹_›).size]; kernel_rfl) | (rw [(qN ‹_› ‹_› ‹_› ‹_›).size]; kernel_rfl) | (rw [(PtN.arr ‹_›).size]; kernel_rfl) | (rw [(PtV.arr ‹_›).size]; kernel_rfl) | (rw [(QtN.arr ‹_›).size]; kernel_rfl))) rfl ?_
 exact ⟨_, hc, rfl, HS.out.below⟩
theorem en33_bs (args : Array Value) (w : World) : (callFunc 140 args).run Tryz.prog w = .ok (.enter 140 args) w := by kernel_rfl
theorem en34_bs (args : Array Value) (w : World) : (callFunc 137 args).run Tryz.prog w = .ok (.enter 137 args) w := by kernel_rfl
theorem en34_pq (args : Array Value) (w : World) : (callFunc 137 args).run Tryz.prog w = .ok (.enter 137 args) w := by kernel_rfl
theorem en42_pq (args : Array Value) (w : World) : (callFunc 156 args).run Tryz.prog w = .ok (.enter 156 args) w := by kernel_rfl
theorem en43_pq (args : Array Value) (w : World) : (callFunc 157 args).run Tryz.prog w = .ok (.enter 157 args) w := by kernel_rfl
theorem zeroQ (w : World) : Calls Tryz.prog 139 #[] w (ResQ w .zero) := by
 obtain ⟨zz, hzz, hc⟩ : ∃ v, Tryz.prog.built 130 [] = some v ∧ NA v 0 := ⟨_, build0N, na_0⟩
 have HS := hide (St.init w NoB)
 go_enter Tryz.func139, Tryz.ntmps139
 go_wp2_with (first | (refine wl_allocR rfl rfl HS.out newQ ?_; intro gz wz hS9; have HS := hide hS9; clear hS9; (try simp only [Act.put, nq1, nq2, nq3, nq4, nq5, nq6])) | (go_at_call 140; (with_reducible refine (smallNA1 _).mono ?_); rintro e wy ⟨z, hz, rfl, hb⟩; have HS := hide (HS.out.call hb)) | (refine wl_build0 rfl rfl hzz ?_; (try simp only [Act.put, nq1, nq2, nq3, nq4, nq5, nq6])) | (refine wl_build4 rfl rfl rfl rfl rfl rfl buildQ (exN hc) (exN (by assumption)) (exN (by assumption)) (exN hc) ?_; (try simp only [Act.put, nq1, nq2, nq3, nq4, nq5, nq6])) | (refine wl_storeR rfl rfl rfl rfl HS.out rowQ (.head) (by first | exact arr_zQ | exact QtN.arr ‹_› | exact qN ‹_› ‹_› ‹_› ‹_›) (by first | exact arr_zQ | exact QtN.arr ‹_› | exact qN ‹_› ‹_› ‹_› ‹_›) ?_; intro wz hS9; have HS := hide hS9; clear hS9; (try simp only [Act.put, nq1, nq2, nq3, nq4, nq5, nq6])))
 refine bodyPost_ret (results_cell_row rfl _ _ _ _ _ _ _ rfl (HS.out.heapM (by (repeat first | exact .head _ | apply List.Mem.tail))) Tryz.underlying132 rfl (by first | (rw [(EA.arr ‹_›).size]; kernel_rfl) | (rw [(NA.arr ‹_›).size]; kernel_rfl) | (rw [(qE ‹_› ‹_› ‹_› ‹_›).size]; kernel_rfl) | (rw [(qN ‹_› ‹_› ‹_› ‹_›).size]; kernel_rfl) | (rw [(PtN.arr ‹_›).size]; kernel_rfl) | (rw [(PtV.arr ‹_›).size]; kernel_rfl) | (rw [(QtN.arr ‹_›).size]; kernel_rfl))) rfl ?_
 exact ⟨_, ⟨⟨0, 1, 1, 0⟩, _, _, _, _, rfl, hc, by assumption, by assumption, hc, rp_zero⟩, rfl, HS.out.below⟩
theorem baseQ (w : World) : Calls Tryz.prog 101 #[] w (ResQ w Bp) := by
 have hx := na_x
 have hy := na_y
 have HS := hide (St.init w NoB)
 go_enter Tryz.func101, Tryz.ntmps101
 go_wp2_with (first | (refine wl_loadP rfl rfl rfl HS.out (by (repeat first | exact .head _ | apply List.Mem.tail)) (by first | exact rowE | exact rowP | exact rowN | exact rowQ) (by (first | exact .q0 (EA.arr ‹_›) | exact .q1 (EA.arr ‹_›) (EA.arr ‹_›) | exact .q2 (EA.arr ‹_›) (EA.arr ‹_›) (EA.arr ‹_›) | exact .q3 (EA.arr ‹_›) (EA.arr ‹_›) (EA.arr ‹_›) (EA.arr ‹_›) | exact .q0 (NA.arr ‹_›) | exact .q1 (NA.arr ‹_›) (NA.arr ‹_›) | exact .q2 (NA.arr ‹_›) (NA.arr ‹_›) (NA.arr ‹_›) | exact .q3 (NA.arr ‹_›) (NA.arr ‹_›) (NA.arr ‹_›) (NA.arr ‹_›) | exact .all (by (first | exact EA.arr ‹_› | exact NA.arr ‹_› | exact arr_zE | exact arr_zN | exact arr_zP | exact arr_zQ | exact PtN.arr ‹_› | exact PtV.arr ‹_› | exact QtN.arr ‹_› | exact qE ‹_› ‹_› ‹_› ‹_› | exact qN ‹_› ‹_› ‹_› ‹_›)))) ?_; (try simp only [Act.put, nq1, nq2, nq3, nq4, nq5, nq6])) | (refine wl_storeR rfl rfl rfl rfl HS.out (by first | exact rowE | exact rowP | exact rowN | exact rowQ) (by (repeat first | exact .head | apply Upd.tail)) (by (first | exact EA.arr ‹_› | exact NA.arr ‹_› | exact arr_zE | exact arr_zN | exact arr_zP | exact arr_zQ | exact PtN.arr ‹_› | exact PtV.arr ‹_› | exact QtN.arr ‹_› | exact qE ‹_› ‹_› ‹_› ‹_› | exact qN ‹_› ‹_› ‹_› ‹_›)) (by (first | exact EA.arr ‹_› | exact NA.arr ‹_› | exact arr_zE | exact arr_zN | exact arr_zP | exact arr_zQ | exact PtN.arr ‹_› | exact PtV.arr ‹_› | exact QtN.arr ‹_› | exact qE ‹_› ‹_› ‹_› ‹_› | exact qN ‹_› ‹_› ‹_› ‹_›)) ?_; intro wz hS9; have HS := hide hS9; clear hS9; (try simp only [Act.put, nq1, nq2, nq3, nq4, nq5, nq6])) | (refine wl_allocR rfl rfl HS.out (by first | exact newE | exact newP | exact newN | exact newQ) ?_; intro gz wz hS9; have HS := hide hS9; clear hS9; (try simp only [Act.put, nq1, nq2, nq3, nq4, nq5, nq6])) | (refine wl_boxR rfl rfl rfl HS.out ?_; intro gz wz hS9; have HS := hide hS9; clear hS9; (try simp only [Act.put, nq1, nq2, nq3, nq4, nq5, nq6])))
 have HS := hide HS.out.drew
 refine wp_region_T [(0, 0), (1, 0), (3, 0), (4, 0), (2, 2), (5, 2), (6, 1), (7, 3)] (by kernel_rfl) (by kernel_rfl) (fun _ _ _ _ h => h) ?_
 refine wpT_loadP rfl rfl rfl rfl HS.out (.tail _ (.head _)) rowN (.all (by first | exact NA.arr ‹_› | exact arr_zN)) ?_; (try simp only [Act.put, nq1, nq2, nq3, nq4, nq5, nq6])
 refine wpT_loadP rfl rfl rfl rfl HS.out (.head _) rowN (.all (by first | exact NA.arr ‹_› | exact arr_zN)) ?_; (try simp only [Act.put, nq1, nq2, nq3, nq4, nq5, nq6])
 refine wpT_loadP rfl rfl rfl rfl HS.out (.tail _ (.head _)) rowN (.all (by first | exact NA.arr ‹_› | exact arr_zN)) ?_; (try simp only [Act.put, nq1, nq2, nq3, nq4, nq5, nq6])
 refine wpT_loadP rfl rfl rfl rfl HS.out (.head _) rowN (.all (by first | exact NA.arr ‹_› | exact arr_zN)) ?_; (try simp only [Act.put, nq1, nq2, nq3, nq4, nq5, nq6])
 refine wpT_callF rfl rfl rfl en33_bs rfl (smallNA1 _) ?_; rintro e wy ⟨z, hz, rfl, hb⟩; refine ⟨_, rfl, hb, ?_⟩; have HS := hide (HS.out.call hb); (try simp only [Act.put, nq1, nq2, nq3, nq4, nq5, nq6])
 refine wpT_callF rfl rfl rfl en34_bs rfl (mulNA _ ‹_› ‹_›) ?_; rintro e wy ⟨z, hz, rfl, hb⟩; refine ⟨_, rfl, hb, ?_⟩; have HS := hide (HS.out.call hb); (try simp only [Act.put, nq1, nq2, nq3, nq4, nq5, nq6])
 refine wpT_pure rfl rfl (fun x => run_build4 rfl rfl rfl rfl rfl buildQ (exN ‹_›) (exN ‹_›) (exN ‹_›) (exN ‹_›) x) ?_; (try simp only [Act.put, nq1, nq2, nq3, nq4, nq5, nq6])
 refine wpT_late rfl rfl ?_; intro K hK; refine wp_storeR rfl rfl rfl HS.out rowQ (.tail (.tail (.head))) (by first | exact arr_zQ | exact QtN.arr ‹_› | exact qN ‹_› ‹_› ‹_› ‹_›) (by first | exact arr_zQ | exact QtN.arr ‹_› | exact qN ‹_› ‹_› ‹_› ‹_›) ?_; intro wz hS9; have HS := hide hS9; clear hS9; refine hK _ _ ?_; (try simp only [Act.put, nq1, nq2, nq3, nq4, nq5, nq6])
 refine wpT_nil ?_
 go_wp2_with fail
 refine bodyPost_ret (results_cell_row rfl _ _ _ _ _ _ _ rfl (HS.out.heapM (by (repeat first | exact .head _ | apply List.Mem.tail))) Tryz.underlying132 rfl (by first | (rw [(EA.arr ‹_›).size]; kernel_rfl) | (rw [(NA.arr ‹_›).size]; kernel_rfl) | (rw [(qE ‹_› ‹_› ‹_› ‹_›).size]; kernel_rfl) | (rw [(qN ‹_› ‹_› ‹_› ‹_›).size]; kernel_rfl) | (rw [(PtN.arr ‹_›).size]; kernel_rfl) | (rw [(PtV.arr ‹_›).size]; kernel_rfl) | (rw [(QtN.arr ‹_›).size]; kernel_rfl))) rfl ?_
 exact ⟨_, ⟨⟨Bp.x, Bp.y, 1, Bp.x * Bp.y⟩, _, _, _, _, rfl, hx, hy, by assumption, by assumption, rp_of Bp⟩, rfl, HS.out.below⟩
theorem plJ_page (A B : Pj) : plJ A B =
 ⟨((A.Y + A.X) * (B.Y + B.X) - (A.Y - A.X) * (B.Y - B.X)) * (A.Z * B.Z + A.Z * B.Z - A.T * B.T * (dF + dF)),
  ((A.Y + A.X) * (B.Y + B.X) + (A.Y - A.X) * (B.Y - B.X)) * (A.Z * B.Z + A.Z * B.Z + A.T * B.T * (dF + dF)),
  (A.Z * B.Z + A.Z * B.Z + A.T * B.T * (dF + dF)) * (A.Z * B.Z + A.Z * B.Z - A.T * B.T * (dF + dF)),
  ((A.Y + A.X) * (B.Y + B.X) - (A.Y - A.X) * (B.Y - B.X)) * ((A.Y + A.X) * (B.Y + B.X) + (A.Y - A.X) * (B.Y - B.X))⟩ := by
 unfold plJ
 congr 1 <;> grind
theorem plusQ {u v : Array Value} {P Q : Ed} (w : World) (hu : QtN u P) (hv : QtN v Q) : Calls Tryz.prog 118 #[.agg u, .agg v] w (ResQ w (P.add Q)) := by
 obtain ⟨⟨X, Y, Z, T⟩, a, b, c, d, rfl, h1, h2, h3, h4, h5⟩ := hu.ex
 obtain ⟨⟨X', Y', Z', T'⟩, a', b', c', d', rfl, g1, g2, g3, g4, g5⟩ := hv.ex
 have HS := hide (St.init w NoB)
 go_enter Tryz.func118, Tryz.ntmps118
 go_wp2_with (first | (refine wl_loadP rfl rfl rfl HS.out (by (repeat first | exact .head _ | apply List.Mem.tail)) (by first | exact rowE | exact rowP | exact rowN | exact rowQ) (by (first | exact .q0 (EA.arr ‹_›) | exact .q1 (EA.arr ‹_›) (EA.arr ‹_›) | exact .q2 (EA.arr ‹_›) (EA.arr ‹_›) (EA.arr ‹_›) | exact .q3 (EA.arr ‹_›) (EA.arr ‹_›) (EA.arr ‹_›) (EA.arr ‹_›) | exact .q0 (NA.arr ‹_›) | exact .q1 (NA.arr ‹_›) (NA.arr ‹_›) | exact .q2 (NA.arr ‹_›) (NA.arr ‹_›) (NA.arr ‹_›) | exact .q3 (NA.arr ‹_›) (NA.arr ‹_›) (NA.arr ‹_›) (NA.arr ‹_›) | exact .all (by (first | exact EA.arr ‹_› | exact NA.arr ‹_› | exact arr_zE | exact arr_zN | exact arr_zP | exact arr_zQ | exact PtN.arr ‹_› | exact PtV.arr ‹_› | exact QtN.arr ‹_› | exact qE ‹_› ‹_› ‹_› ‹_› | exact qN ‹_› ‹_› ‹_› ‹_›)))) ?_; (try simp only [Act.put, nq1, nq2, nq3, nq4, nq5, nq6])) | (refine wl_storeR rfl rfl rfl rfl HS.out (by first | exact rowE | exact rowP | exact rowN | exact rowQ) (by (repeat first | exact .head | apply Upd.tail)) (by (first | exact EA.arr ‹_› | exact NA.arr ‹_› | exact arr_zE | exact arr_zN | exact arr_zP | exact arr_zQ | exact PtN.arr ‹_› | exact PtV.arr ‹_› | exact QtN.arr ‹_› | exact qE ‹_› ‹_› ‹_› ‹_› | exact qN ‹_› ‹_› ‹_› ‹_›)) (by (first | exact EA.arr ‹_› | exact NA.arr ‹_› | exact arr_zE | exact arr_zN | exact arr_zP | exact arr_zQ | exact PtN.arr ‹_› | exact PtV.arr ‹_› | exact QtN.arr ‹_› | exact qE ‹_› ‹_› ‹_› ‹_› | exact qN ‹_› ‹_› ‹_› ‹_›)) ?_; intro wz hS9; have HS := hide hS9; clear hS9; (try simp only [Act.put, nq1, nq2, nq3, nq4, nq5, nq6])) | (refine wl_allocR rfl rfl HS.out (by first | exact newE | exact newP | exact newN | exact newQ) ?_; intro gz wz hS9; have HS := hide hS9; clear hS9; (try simp only [Act.put, nq1, nq2, nq3, nq4, nq5, nq6])) | (refine wl_boxR rfl rfl rfl HS.out ?_; intro gz wz hS9; have HS := hide hS9; clear hS9; (try simp only [Act.put, nq1, nq2, nq3, nq4, nq5, nq6])))
 have HS := hide HS.out.drew
 refine wp_region_XE [(11, 5)] [(0, 1), (1, 0), (2, 1), (3, 0), (5, 1), (6, 0), (7, 1), (8, 0), (4, 2), (9, 2), (10, 2)] (.op 12 2 (.nil)) zN 130 (by kernel_rfl) (by kernel_rfl) (by kernel_rfl) (by intro p hp; simp only [List.mem_cons, List.not_mem_nil, or_false] at hp; subst hp <;> exact flOp_of rfl rfl rfl (fun ev x => run_allocR rfl newN ev x)) (fun _ _ _ _ h => h) ?_
 (refine wpX_pure (v := ?_) rfl rfl ?_ ?_; rotate_left; (intro wx; go_simp; try go_bits) <;> (with_reducible rfl)); (try simp only [Act.put, nq1, nq2, nq3, nq4, nq5, nq6])
 refine wpX_loadP rfl rfl rfl rfl HS.out (.tail _ (.tail _ (.head _))) rowN (.q1 (NA.arr ‹_›) (NA.arr ‹_›)) ?_; (try simp only [Act.put, nq1, nq2, nq3, nq4, nq5, nq6])
 (refine wpX_pure (v := ?_) rfl rfl ?_ ?_; rotate_left; (intro wx; go_simp; try go_bits) <;> (with_reducible rfl)); (try simp only [Act.put, nq1, nq2, nq3, nq4, nq5, nq6])
 refine wpX_loadP rfl rfl rfl rfl HS.out (.tail _ (.tail _ (.head _))) rowN (.q0 (NA.arr ‹_›)) ?_; (try simp only [Act.put, nq1, nq2, nq3, nq4, nq5, nq6])
 (refine wpX_pure (v := ?_) rfl rfl ?_ ?_; rotate_left; (intro wx; go_simp; try go_bits) <;> (with_reducible rfl)); (try simp only [Act.put, nq1, nq2, nq3, nq4, nq5, nq6])
 refine wpX_loadP rfl rfl rfl rfl HS.out (.tail _ (.head _)) rowN (.q1 (NA.arr ‹_›) (NA.arr ‹_›)) ?_; (try simp only [Act.put, nq1, nq2, nq3, nq4, nq5, nq6])
 (refine wpX_pure (v := ?_) rfl rfl ?_ ?_; rotate_left; (intro wx; go_simp; try go_bits) <;> (with_reducible rfl)); (try simp only [Act.put, nq1, nq2, nq3, nq4, nq5, nq6])
 refine wpX_loadP rfl rfl rfl rfl HS.out (.tail _ (.head _)) rowN (.q0 (NA.arr ‹_›)) ?_; (try simp only [Act.put, nq1, nq2, nq3, nq4, nq5, nq6])
 refine wpX_callF rfl rfl rfl en42_pq rfl (fun x => subNA x ‹_› ‹_›) ?_; rintro xw e wy ⟨z, hz, rfl, hb⟩; refine ⟨_, rfl, hb, ?_⟩; (try simp only [Act.put, nq1, nq2, nq3, nq4, nq5, nq6])
 refine wpX_callF rfl rfl rfl en42_pq rfl (fun x => subNA x ‹_› ‹_›) ?_; rintro xw e wy ⟨z, hz, rfl, hb⟩; refine ⟨_, rfl, hb, ?_⟩; (try simp only [Act.put, nq1, nq2, nq3, nq4, nq5, nq6])
 refine wpX_callF rfl rfl rfl en34_pq rfl (fun x => mulNA x ‹_› ‹_›) ?_; rintro xw e wy ⟨z, hz, rfl, hb⟩; refine ⟨_, rfl, hb, ?_⟩; (try simp only [Act.put, nq1, nq2, nq3, nq4, nq5, nq6])
 refine wpX_nil ?_; intro G xz hx0 hx hF; have hS9 := HS.out.floats hx0 hF _ (by decide) (fun _ h => h); simp only [List.map_cons, List.map_nil, List.cons_append, List.nil_append] at hS9; have HS := hide hS9; have HX := hide hx0; have HG := hide hF.at_; clear hS9 hF hx0 hx; simp only [putsE, List.foldl_cons, List.foldl_nil]; (try simp only [Act.put, nq1, nq2, nq3, nq4, nq5, nq6])
 refine wpS_storeF rfl rfl rfl rfl rfl HS.out HX.out (HG.out 11 (by simp)).1 rowN (.head) (by first | exact NA.arr ‹_› | exact arr_zN) (by first | exact NA.arr ‹_› | exact arr_zN) ?_; intro wz hS9 hX9; have HS := hide hS9; have HX := hide hX9; clear hS9 hX9; (try simp only [Act.put, nq1, nq2, nq3, nq4, nq5, nq6])
 refine wpS_nil ?_
 go_wp2_with fail
 have HS := hide HS.out.drew
 refine wp_region_XE [(11, 6)] [(0, 1), (1, 0), (2, 1), (3, 0), (5, 1), (6, 0), (7, 1), (8, 0), (4, 2), (9, 2), (10, 2)] (.op 12 2 (.nil)) zN 130 (by kernel_rfl) (by kernel_rfl) (by kernel_rfl) (by intro p hp; simp only [List.mem_cons, List.not_mem_nil, or_false] at hp; subst hp <;> exact flOp_of rfl rfl rfl (fun ev x => run_allocR rfl newN ev x)) (fun _ _ _ _ h => h) ?_
 (refine wpX_pure (v := ?_) rfl rfl ?_ ?_; rotate_left; (intro wx; go_simp; try go_bits) <;> (with_reducible rfl)); (try simp only [Act.put, nq1, nq2, nq3, nq4, nq5, nq6])
 refine wpX_loadP rfl rfl rfl rfl HS.out (.tail _ (.tail _ (.tail _ (.head _)))) rowN (.q1 (NA.arr ‹_›) (NA.arr ‹_›)) ?_; (try simp only [Act.put, nq1, nq2, nq3, nq4, nq5, nq6])
 (refine wpX_pure (v := ?_) rfl rfl ?_ ?_; rotate_left; (intro wx; go_simp; try go_bits) <;> (with_reducible rfl)); (try simp only [Act.put, nq1, nq2, nq3, nq4, nq5, nq6])
 refine wpX_loadP rfl rfl rfl rfl HS.out (.tail _ (.tail _ (.tail _ (.head _)))) rowN (.q0 (NA.arr ‹_›)) ?_; (try simp only [Act.put, nq1, nq2, nq3, nq4, nq5, nq6])
 (refine wpX_pure (v := ?_) rfl rfl ?_ ?_; rotate_left; (intro wx; go_simp; try go_bits) <;> (with_reducible rfl)); (try simp only [Act.put, nq1, nq2, nq3, nq4, nq5, nq6])
 refine wpX_loadP rfl rfl rfl rfl HS.out (.tail _ (.tail _ (.head _))) rowN (.q1 (NA.arr ‹_›) (NA.arr ‹_›)) ?_; (try simp only [Act.put, nq1, nq2, nq3, nq4, nq5, nq6])
 (refine wpX_pure (v := ?_) rfl rfl ?_ ?_; rotate_left; (intro wx; go_simp; try go_bits) <;> (with_reducible rfl)); (try simp only [Act.put, nq1, nq2, nq3, nq4, nq5, nq6])
 refine wpX_loadP rfl rfl rfl rfl HS.out (.tail _ (.tail _ (.head _))) rowN (.q0 (NA.arr ‹_›)) ?_; (try simp only [Act.put, nq1, nq2, nq3, nq4, nq5, nq6])
 refine wpX_callF rfl rfl rfl en43_pq rfl (fun x => addNA x ‹_› ‹_›) ?_; rintro xw e wy ⟨z, hz, rfl, hb⟩; refine ⟨_, rfl, hb, ?_⟩; (try simp only [Act.put, nq1, nq2, nq3, nq4, nq5, nq6])
 refine wpX_callF rfl rfl rfl en43_pq rfl (fun x => addNA x ‹_› ‹_›) ?_; rintro xw e wy ⟨z, hz, rfl, hb⟩; refine ⟨_, rfl, hb, ?_⟩; (try simp only [Act.put, nq1, nq2, nq3, nq4, nq5, nq6])
 refine wpX_callF rfl rfl rfl en34_pq rfl (fun x => mulNA x ‹_› ‹_›) ?_; rintro xw e wy ⟨z, hz, rfl, hb⟩; refine ⟨_, rfl, hb, ?_⟩; (try simp only [Act.put, nq1, nq2, nq3, nq4, nq5, nq6])
 refine wpX_nil ?_; intro G xz hx0 hx hF; have hS9 := HS.out.floats hx0 hF _ (by decide) (fun _ h => h); simp only [List.map_cons, List.map_nil, List.cons_append, List.nil_append] at hS9; have HS := hide hS9; have HX := hide hx0; have HG := hide hF.at_; clear hS9 hF hx0 hx; simp only [putsE, List.foldl_cons, List.foldl_nil]; (try simp only [Act.put, nq1, nq2, nq3, nq4, nq5, nq6])
 refine wpS_storeF rfl rfl rfl rfl rfl HS.out HX.out (HG.out 11 (by simp)).1 rowN (.head) (by first | exact NA.arr ‹_› | exact arr_zN) (by first | exact NA.arr ‹_› | exact arr_zN) ?_; intro wz hS9 hX9; have HS := hide hS9; have HX := hide hX9; clear hS9 hX9; (try simp only [Act.put, nq1, nq2, nq3, nq4, nq5, nq6])
 refine wpS_nil ?_
 go_wp2_with (first | (go_at_call 158; (with_reducible refine (dNA _).mono ?_); rintro e wy ⟨z, hz, rfl, hb⟩; have HS := hide (HS.out.call hb)) | (go_at_call 137; (with_reducible refine (mulNA _ (by assumption) (by assumption)).mono ?_); rintro e wy ⟨z, hz, rfl, hb⟩; try have HS := hide (HS.out.call hb)) | (go_at_call 157; (with_reducible refine (addNA _ (by assumption) (by assumption)).mono ?_); rintro e wy ⟨z, hz, rfl, hb⟩; try have HS := hide (HS.out.call hb)) | (go_at_call 156; (with_reducible refine (subNA _ (by assumption) (by assumption)).mono ?_); rintro e wy ⟨z, hz, rfl, hb⟩; try have HS := hide (HS.out.call hb)) | (go_at_call 135; (with_reducible refine (invNA _ (by assumption)).mono ?_); rintro e wy ⟨z, hz, rfl, hb⟩; try have HS := hide (HS.out.call hb)) | (go_at_call 140; (with_reducible refine (smallNA1 _).mono ?_); rintro e wy ⟨z, hz, rfl, hb⟩; try have HS := hide (HS.out.call hb)) | (refine wl_loadP rfl rfl rfl HS.out (.tail _ (.tail _ (.tail _ (.tail _ (.head _))))) rowN (.q3 (NA.arr ‹_›) (NA.arr ‹_›) (NA.arr ‹_›) (NA.arr ‹_›)) ?_; (try simp only [Act.put, nq1, nq2, nq3, nq4, nq5, nq6])) | (refine wl_loadP rfl rfl rfl HS.out (.tail _ (.tail _ (.tail _ (.head _)))) rowN (.q3 (NA.arr ‹_›) (NA.arr ‹_›) (NA.arr ‹_›) (NA.arr ‹_›)) ?_; (try simp only [Act.put, nq1, nq2, nq3, nq4, nq5, nq6])) | (refine wl_storeR rfl rfl rfl rfl HS.out rowN (.head) (by first | exact NA.arr ‹_› | exact arr_zN) (by first | exact NA.arr ‹_› | exact arr_zN) ?_; intro wz hS9; have HS := hide hS9; clear hS9; (try simp only [Act.put, nq1, nq2, nq3, nq4, nq5, nq6])) | (refine wl_loadP rfl rfl rfl HS.out (.tail _ (.tail _ (.tail _ (.tail _ (.tail _ (.head _)))))) rowN (.q2 (NA.arr ‹_›) (NA.arr ‹_›) (NA.arr ‹_›)) ?_; (try simp only [Act.put, nq1, nq2, nq3, nq4, nq5, nq6])) | (refine wl_loadP rfl rfl rfl HS.out (.tail _ (.tail _ (.tail _ (.tail _ (.head _))))) rowN (.q2 (NA.arr ‹_›) (NA.arr ‹_›) (NA.arr ‹_›)) ?_; (try simp only [Act.put, nq1, nq2, nq3, nq4, nq5, nq6])) | (refine wl_loadP rfl rfl rfl HS.out (.head _) rowN (.all (by first | exact NA.arr ‹_› | exact arr_zN)) ?_; (try simp only [Act.put, nq1, nq2, nq3, nq4, nq5, nq6])) | (refine wl_allocR rfl rfl HS.out newN ?_; intro gz wz hS9; have HS := hide hS9; clear hS9; (try simp only [Act.put, nq1, nq2, nq3, nq4, nq5, nq6])))
 have HS := hide HS.out.drew
 refine wp_region_XE [(12, 9), (13, 10), (14, 11), (15, 12)] [(0, 0), (1, 0), (3, 0), (4, 0), (6, 0), (7, 0), (9, 0), (10, 0), (2, 2), (5, 2), (8, 2), (11, 2)] (.op 16 2 (.op 17 2 (.op 18 2 (.op 19 2 (.nil))))) zN 130 (by kernel_rfl) (by kernel_rfl) (by kernel_rfl) (by intro p hp; simp only [List.mem_cons, List.not_mem_nil, or_false] at hp; rcases hp with rfl | rfl | rfl | rfl <;> exact flOp_of rfl rfl rfl (fun ev x => run_allocR rfl newN ev x)) (fun _ _ _ _ h => h) ?_
 refine wpX_loadP rfl rfl rfl rfl HS.out (.tail _ (.tail _ (.head _))) rowN (.all (by first | exact NA.arr ‹_› | exact arr_zN)) ?_; (try simp only [Act.put, nq1, nq2, nq3, nq4, nq5, nq6])
 refine wpX_loadP rfl rfl rfl rfl HS.out (.tail _ (.tail _ (.tail _ (.head _)))) rowN (.all (by first | exact NA.arr ‹_› | exact arr_zN)) ?_; (try simp only [Act.put, nq1, nq2, nq3, nq4, nq5, nq6])
 refine wpX_loadP rfl rfl rfl rfl HS.out (.head _) rowN (.all (by first | exact NA.arr ‹_› | exact arr_zN)) ?_; (try simp only [Act.put, nq1, nq2, nq3, nq4, nq5, nq6])
 refine wpX_loadP rfl rfl rfl rfl HS.out (.tail _ (.head _)) rowN (.all (by first | exact NA.arr ‹_› | exact arr_zN)) ?_; (try simp only [Act.put, nq1, nq2, nq3, nq4, nq5, nq6])
 refine wpX_loadP rfl rfl rfl rfl HS.out (.head _) rowN (.all (by first | exact NA.arr ‹_› | exact arr_zN)) ?_; (try simp only [Act.put, nq1, nq2, nq3, nq4, nq5, nq6])
 refine wpX_loadP rfl rfl rfl rfl HS.out (.tail _ (.head _)) rowN (.all (by first | exact NA.arr ‹_› | exact arr_zN)) ?_; (try simp only [Act.put, nq1, nq2, nq3, nq4, nq5, nq6])
 refine wpX_loadP rfl rfl rfl rfl HS.out (.tail _ (.tail _ (.head _))) rowN (.all (by first | exact NA.arr ‹_› | exact arr_zN)) ?_; (try simp only [Act.put, nq1, nq2, nq3, nq4, nq5, nq6])
 refine wpX_loadP rfl rfl rfl rfl HS.out (.tail _ (.tail _ (.tail _ (.head _)))) rowN (.all (by first | exact NA.arr ‹_› | exact arr_zN)) ?_; (try simp only [Act.put, nq1, nq2, nq3, nq4, nq5, nq6])
 refine wpX_callF rfl rfl rfl en42_pq rfl (fun x => subNA x ‹_› ‹_›) ?_; rintro xw e wy ⟨z, hz, rfl, hb⟩; refine ⟨_, rfl, hb, ?_⟩; (try simp only [Act.put, nq1, nq2, nq3, nq4, nq5, nq6])
 refine wpX_callF rfl rfl rfl en42_pq rfl (fun x => subNA x ‹_› ‹_›) ?_; rintro xw e wy ⟨z, hz, rfl, hb⟩; refine ⟨_, rfl, hb, ?_⟩; (try simp only [Act.put, nq1, nq2, nq3, nq4, nq5, nq6])
 refine wpX_callF rfl rfl rfl en43_pq rfl (fun x => addNA x ‹_› ‹_›) ?_; rintro xw e wy ⟨z, hz, rfl, hb⟩; refine ⟨_, rfl, hb, ?_⟩; (try simp only [Act.put, nq1, nq2, nq3, nq4, nq5, nq6])
 refine wpX_callF rfl rfl rfl en43_pq rfl (fun x => addNA x ‹_› ‹_›) ?_; rintro xw e wy ⟨z, hz, rfl, hb⟩; refine ⟨_, rfl, hb, ?_⟩; (try simp only [Act.put, nq1, nq2, nq3, nq4, nq5, nq6])
 refine wpX_nil ?_; intro G xz hx0 hx hF; have hS9 := HS.out.floats hx0 hF _ (by decide) (fun _ h => h); simp only [List.map_cons, List.map_nil, List.cons_append, List.nil_append] at hS9; have HS := hide hS9; have HX := hide hx0; have HG := hide hF.at_; clear hS9 hF hx0 hx; simp only [putsE, List.foldl_cons, List.foldl_nil]; (try simp only [Act.put, nq1, nq2, nq3, nq4, nq5, nq6])
 refine wpS_storeF rfl rfl rfl rfl rfl HS.out HX.out (HG.out 12 (by simp)).1 rowN (.head) (by first | exact NA.arr ‹_› | exact arr_zN) (by first | exact NA.arr ‹_› | exact arr_zN) ?_; intro wz hS9 hX9; have HS := hide hS9; have HX := hide hX9; clear hS9 hX9; (try simp only [Act.put, nq1, nq2, nq3, nq4, nq5, nq6])
 refine wpS_storeF rfl rfl rfl rfl rfl HS.out HX.out (HG.out 13 (by simp)).1 rowN (.tail (.head)) (by first | exact NA.arr ‹_› | exact arr_zN) (by first | exact NA.arr ‹_› | exact arr_zN) ?_; intro wz hS9 hX9; have HS := hide hS9; have HX := hide hX9; clear hS9 hX9; (try simp only [Act.put, nq1, nq2, nq3, nq4, nq5, nq6])
 refine wpS_storeF rfl rfl rfl rfl rfl HS.out HX.out (HG.out 14 (by simp)).1 rowN (.tail (.tail (.head))) (by first | exact NA.arr ‹_› | exact arr_zN) (by first | exact NA.arr ‹_› | exact arr_zN) ?_; intro wz hS9 hX9; have HS := hide hS9; have HX := hide hX9; clear hS9 hX9; (try simp only [Act.put, nq1, nq2, nq3, nq4, nq5, nq6])
 refine wpS_storeF rfl rfl rfl rfl rfl HS.out HX.out (HG.out 15 (by simp)).1 rowN (.tail (.tail (.tail (.head)))) (by first | exact NA.arr ‹_› | exact arr_zN) (by first | exact NA.arr ‹_› | exact arr_zN) ?_; intro wz hS9 hX9; have HS := hide hS9; have HX := hide hX9; clear hS9 hX9; (try simp only [Act.put, nq1, nq2, nq3, nq4, nq5, nq6])
 refine wpS_nil ?_
 go_wp2_with fail
 have HS := hide HS.out.drew
 refine wp_region_T [(0, 0), (1, 0), (3, 0), (4, 0), (6, 0), (7, 0), (9, 0), (10, 0), (2, 2), (5, 2), (8, 2), (11, 2), (12, 1), (13, 3)] (by kernel_rfl) (by kernel_rfl) (fun _ _ _ _ h => h) ?_
 refine wpT_loadP rfl rfl rfl rfl HS.out (.head _) rowN (.all (by first | exact NA.arr ‹_› | exact arr_zN)) ?_; (try simp only [Act.put, nq1, nq2, nq3, nq4, nq5, nq6])
 refine wpT_loadP rfl rfl rfl rfl HS.out (.tail _ (.head _)) rowN (.all (by first | exact NA.arr ‹_› | exact arr_zN)) ?_; (try simp only [Act.put, nq1, nq2, nq3, nq4, nq5, nq6])
 refine wpT_loadP rfl rfl rfl rfl HS.out (.tail _ (.tail _ (.tail _ (.head _)))) rowN (.all (by first | exact NA.arr ‹_› | exact arr_zN)) ?_; (try simp only [Act.put, nq1, nq2, nq3, nq4, nq5, nq6])
 refine wpT_loadP rfl rfl rfl rfl HS.out (.tail _ (.tail _ (.head _))) rowN (.all (by first | exact NA.arr ‹_› | exact arr_zN)) ?_; (try simp only [Act.put, nq1, nq2, nq3, nq4, nq5, nq6])
 refine wpT_loadP rfl rfl rfl rfl HS.out (.tail _ (.tail _ (.head _))) rowN (.all (by first | exact NA.arr ‹_› | exact arr_zN)) ?_; (try simp only [Act.put, nq1, nq2, nq3, nq4, nq5, nq6])
 refine wpT_loadP rfl rfl rfl rfl HS.out (.tail _ (.head _)) rowN (.all (by first | exact NA.arr ‹_› | exact arr_zN)) ?_; (try simp only [Act.put, nq1, nq2, nq3, nq4, nq5, nq6])
 refine wpT_loadP rfl rfl rfl rfl HS.out (.head _) rowN (.all (by first | exact NA.arr ‹_› | exact arr_zN)) ?_; (try simp only [Act.put, nq1, nq2, nq3, nq4, nq5, nq6])
 refine wpT_loadP rfl rfl rfl rfl HS.out (.tail _ (.tail _ (.tail _ (.head _)))) rowN (.all (by first | exact NA.arr ‹_› | exact arr_zN)) ?_; (try simp only [Act.put, nq1, nq2, nq3, nq4, nq5, nq6])
 refine wpT_callF rfl rfl rfl en34_pq rfl (mulNA _ ‹_› ‹_›) ?_; rintro e wy ⟨z, hz, rfl, hb⟩; refine ⟨_, rfl, hb, ?_⟩; have HS := hide (HS.out.call hb); (try simp only [Act.put, nq1, nq2, nq3, nq4, nq5, nq6])
 refine wpT_callF rfl rfl rfl en34_pq rfl (mulNA _ ‹_› ‹_›) ?_; rintro e wy ⟨z, hz, rfl, hb⟩; refine ⟨_, rfl, hb, ?_⟩; have HS := hide (HS.out.call hb); (try simp only [Act.put, nq1, nq2, nq3, nq4, nq5, nq6])
 refine wpT_callF rfl rfl rfl en34_pq rfl (mulNA _ ‹_› ‹_›) ?_; rintro e wy ⟨z, hz, rfl, hb⟩; refine ⟨_, rfl, hb, ?_⟩; have HS := hide (HS.out.call hb); (try simp only [Act.put, nq1, nq2, nq3, nq4, nq5, nq6])
 refine wpT_callF rfl rfl rfl en34_pq rfl (mulNA _ ‹_› ‹_›) ?_; rintro e wy ⟨z, hz, rfl, hb⟩; refine ⟨_, rfl, hb, ?_⟩; have HS := hide (HS.out.call hb); (try simp only [Act.put, nq1, nq2, nq3, nq4, nq5, nq6])
 refine wpT_pure rfl rfl (fun x => run_build4 rfl rfl rfl rfl rfl buildQ (exN ‹_›) (exN ‹_›) (exN ‹_›) (exN ‹_›) x) ?_; (try simp only [Act.put, nq1, nq2, nq3, nq4, nq5, nq6])
 refine wpT_late rfl rfl ?_; intro K hK; refine wp_storeR rfl rfl rfl HS.out rowQ (.tail (.tail (.tail (.tail (.tail (.tail (.tail (.tail (.head))))))))) (by first | exact arr_zQ | exact QtN.arr ‹_› | exact qN ‹_› ‹_› ‹_› ‹_›) (by first | exact arr_zQ | exact QtN.arr ‹_› | exact qN ‹_› ‹_› ‹_› ‹_›) ?_; intro wz hS9; have HS := hide hS9; clear hS9; refine hK _ _ ?_; (try simp only [Act.put, nq1, nq2, nq3, nq4, nq5, nq6])
 refine wpT_nil ?_
 go_wp2_with fail
 refine bodyPost_ret (results_cell_row rfl _ _ _ _ _ _ _ rfl (HS.out.heapM (by (repeat first | exact .head _ | apply List.Mem.tail))) Tryz.underlying132 rfl (by first | (rw [(EA.arr ‹_›).size]; kernel_rfl) | (rw [(NA.arr ‹_›).size]; kernel_rfl) | (rw [(qE ‹_› ‹_› ‹_› ‹_›).size]; kernel_rfl) | (rw [(qN ‹_› ‹_› ‹_› ‹_›).size]; kernel_rfl) | (rw [(PtN.arr ‹_›).size]; kernel_rfl) | (rw [(PtV.arr ‹_›).size]; kernel_rfl) | (rw [(QtN.arr ‹_›).size]; kernel_rfl))) rfl ?_
 have hr := rp_plus h5 g5
 rw [plJ_page] at hr
 exact ⟨_, ⟨_, _, _, _, _, rfl, by assumption, by assumption, by assumption, by assumption, hr⟩, rfl, HS.out.below⟩
end Go.Proofs.YtnohmgpmmhlloaaGreatDoor

namespace Go.Proofs.YtnohmgpmmhlloaaGreatDoor
open Go.RowKit
set_option linter.unusedSimpArgs false
end Go.Proofs.YtnohmgpmmhlloaaGreatDoor

namespace Go.Proofs.YtnohmgpmmhlloaaGreatDoor
open Go.RowKit
set_option linter.unusedSimpArgs false

end Go.Proofs.YtnohmgpmmhlloaaGreatDoor

namespace Go.Proofs.YtnohmgpmmhlloaaGreatDoor
open Go.RowKit
set_option linter.unusedSimpArgs false

theorem packQ {v : Array Value} {P : Ed} (w : World) (hv : QtN v P) : Calls Tryz.prog 99 #[.agg v] w (ResB 5 w (packL P)) := by
 have HS := hide (St.init w NoB)
 obtain ⟨⟨X, Y, Z, T⟩, a, b, c, d, rfl, h1, h2, h3, h4, h5⟩ := hv.ex
 obtain ⟨l, r, hl31, hr128, e1, e2⟩ := top_bit P.y.val (Nat.lt_trans P.y.isLt pq_255)
 have HE1 := hide e1
 have HE2 := hide e2
 have HL31 := hide hl31
 have hpk : packL P = if P.x.val % 2 = 1 then l ++ [UInt8.ofNat (r + 128)] else l ++ [UInt8.ofNat r] := by
  unfold packL packN
  split
  ·exact e2
  ·rw [Nat.add_zero]; exact e1
 have HPK := hide hpk
 have hlen : (l ++ [UInt8.ofNat r]).length = 32 := by rw [List.length_append, hl31]; rfl
 have HLEN := hide hlen
 clear e1 e2 hpk hl31 hlen
 go_enter Tryz.func99, Tryz.ntmps99
 go_upto_region 3 with (first
  | (go_at_call 135; (with_reducible refine (invNA _ h3).mono ?_); rintro e wy ⟨zi, hzi, rfl, hb⟩; have HS := hide (HS.out.call hb))
  | (go_at_call 137; (with_reducible refine (mulNA _ h2 hzi).mono ?_); rintro e wy ⟨zy, hzy, rfl, hb⟩; rw [rp_y h5] at hzy; have HS := hide (HS.out.call hb))
  | (go_at_call 136; (with_reducible refine (bytesNA _ hzy).mono ?_); rintro e wy hRB; rw [HE1.out] at hRB; obtain ⟨B, dd, rfl, hb, ho⟩ := hRB; rw [HLEN.out] at ho ⊢; have HS := hide (HS.out.row hb ho); clear ho)
  | (refine wl_loadP rfl rfl rfl HS.out (by (repeat first | exact .head _ | apply List.Mem.tail)) (by first | exact rowE | exact rowP | exact rowN | exact rowQ) (by (first | exact .q0 (EA.arr ‹_›) | exact .q1 (EA.arr ‹_›) (EA.arr ‹_›) | exact .q2 (EA.arr ‹_›) (EA.arr ‹_›) (EA.arr ‹_›) | exact .q3 (EA.arr ‹_›) (EA.arr ‹_›) (EA.arr ‹_›) (EA.arr ‹_›) | exact .q0 (NA.arr ‹_›) | exact .q1 (NA.arr ‹_›) (NA.arr ‹_›) | exact .q2 (NA.arr ‹_›) (NA.arr ‹_›) (NA.arr ‹_›) | exact .q3 (NA.arr ‹_›) (NA.arr ‹_›) (NA.arr ‹_›) (NA.arr ‹_›) | exact .all (by (first | exact EA.arr ‹_› | exact NA.arr ‹_› | exact arr_zE | exact arr_zN | exact arr_zP | exact arr_zQ | exact PtN.arr ‹_› | exact PtV.arr ‹_› | exact QtN.arr ‹_› | exact qE ‹_› ‹_› ‹_› ‹_› | exact qN ‹_› ‹_› ‹_› ‹_›)))) ?_; (try simp only [Act.put, nq1, nq2, nq3, nq4, nq5, nq6])) | (refine wl_storeR rfl rfl rfl rfl HS.out (by first | exact rowE | exact rowP | exact rowN | exact rowQ) (by (repeat first | exact .head | apply Upd.tail)) (by (first | exact EA.arr ‹_› | exact NA.arr ‹_› | exact arr_zE | exact arr_zN | exact arr_zP | exact arr_zQ | exact PtN.arr ‹_› | exact PtV.arr ‹_› | exact QtN.arr ‹_› | exact qE ‹_› ‹_› ‹_› ‹_› | exact qN ‹_› ‹_› ‹_› ‹_›)) (by (first | exact EA.arr ‹_› | exact NA.arr ‹_› | exact arr_zE | exact arr_zN | exact arr_zP | exact arr_zQ | exact PtN.arr ‹_› | exact PtV.arr ‹_› | exact QtN.arr ‹_› | exact qE ‹_› ‹_› ‹_› ‹_› | exact qN ‹_› ‹_› ‹_› ‹_›)) ?_; intro wz hS9; have HS := hide hS9; clear hS9; (try simp only [Act.put, nq1, nq2, nq3, nq4, nq5, nq6])) | (refine wl_allocR rfl rfl HS.out (by first | exact newE | exact newP | exact newN | exact newQ) ?_; intro gz wz hS9; have HS := hide hS9; clear hS9; (try simp only [Act.put, nq1, nq2, nq3, nq4, nq5, nq6])) | (refine wl_boxR rfl rfl rfl HS.out ?_; intro gz wz hS9; have HS := hide hS9; clear hS9; (try simp only [Act.put, nq1, nq2, nq3, nq4, nq5, nq6])))
 have gB : ((bvs (l ++ [UInt8.ofNat r]))[31]? = some (.int .u8 (r : Int))) := by
  rw [bvs_get (list_top HL31.out (UInt8.ofNat r)).1, UInt8.toNat_ofNat', Nat.mod_eq_of_lt (by omega)]
 have GB := hide gB
 have hor := u8_or128 r hr128
 have HR := hide hr128
 clear gB
 have hx31 := rp_x h5
 by_cases hodd : P.x.val % 2 = 1
 ·go_wp2_with (first
   | (go_at_call 137; (with_reducible refine (mulNA _ h1 hzi).mono ?_); rintro e wy ⟨zx, hzx, rfl, hb⟩; rw [hx31] at hzx; have HS := hide (HS.out.call hb))
   | (go_at_call 138; (with_reducible refine (oddNA _ hzx).mono ?_); rintro e wy ⟨rfl, hb⟩; rw [decide_eq_true hodd]; have HS := hide (HS.out.call hb); obtain ⟨g, c1, hvv, _, _, hcs, hfr, _⟩ := HS.out.rowOpen 0 rfl (by omega); injection hvv with hvv1 _ hvv3; subst hvv1 hvv3; have k31 := hcs 31 _ GB.out; have f31 := hfr 31; have HS9 := hide HS.out; clear hcs hfr)
   | (refine wl_loadP rfl rfl rfl HS.out (by (repeat first | exact .head _ | apply List.Mem.tail)) (by first | exact rowE | exact rowP | exact rowN | exact rowQ) (by (first | exact .q0 (EA.arr ‹_›) | exact .q1 (EA.arr ‹_›) (EA.arr ‹_›) | exact .q2 (EA.arr ‹_›) (EA.arr ‹_›) (EA.arr ‹_›) | exact .q3 (EA.arr ‹_›) (EA.arr ‹_›) (EA.arr ‹_›) (EA.arr ‹_›) | exact .q0 (NA.arr ‹_›) | exact .q1 (NA.arr ‹_›) (NA.arr ‹_›) | exact .q2 (NA.arr ‹_›) (NA.arr ‹_›) (NA.arr ‹_›) | exact .q3 (NA.arr ‹_›) (NA.arr ‹_›) (NA.arr ‹_›) (NA.arr ‹_›) | exact .all (by (first | exact EA.arr ‹_› | exact NA.arr ‹_› | exact arr_zE | exact arr_zN | exact arr_zP | exact arr_zQ | exact PtN.arr ‹_› | exact PtV.arr ‹_› | exact QtN.arr ‹_› | exact qE ‹_› ‹_› ‹_› ‹_› | exact qN ‹_› ‹_› ‹_› ‹_›)))) ?_; (try simp only [Act.put, nq1, nq2, nq3, nq4, nq5, nq6])) | (refine wl_storeR rfl rfl rfl rfl HS.out (by first | exact rowE | exact rowP | exact rowN | exact rowQ) (by (repeat first | exact .head | apply Upd.tail)) (by (first | exact EA.arr ‹_› | exact NA.arr ‹_› | exact arr_zE | exact arr_zN | exact arr_zP | exact arr_zQ | exact PtN.arr ‹_› | exact PtV.arr ‹_› | exact QtN.arr ‹_› | exact qE ‹_› ‹_› ‹_› ‹_› | exact qN ‹_› ‹_› ‹_› ‹_›)) (by (first | exact EA.arr ‹_› | exact NA.arr ‹_› | exact arr_zE | exact arr_zN | exact arr_zP | exact arr_zQ | exact PtN.arr ‹_› | exact PtV.arr ‹_› | exact QtN.arr ‹_› | exact qE ‹_› ‹_› ‹_› ‹_› | exact qN ‹_› ‹_› ‹_› ‹_›)) ?_; intro wz hS9; have HS := hide hS9; clear hS9; (try simp only [Act.put, nq1, nq2, nq3, nq4, nq5, nq6])) | (refine wl_allocR rfl rfl HS.out (by first | exact newE | exact newP | exact newN | exact newQ) ?_; intro gz wz hS9; have HS := hide hS9; clear hS9; (try simp only [Act.put, nq1, nq2, nq3, nq4, nq5, nq6])) | (refine wl_boxR rfl rfl rfl HS.out ?_; intro gz wz hS9; have HS := hide hS9; clear hS9; (try simp only [Act.put, nq1, nq2, nq3, nq4, nq5, nq6])))
  go_ret
  have h9 := HS9.out.rowSet 0 rfl 31 (.int .u8 ((r + 128 : Nat) : Int)) (by omega)
  rw [bvs_set _ _ _ (by have := HR.out; omega), (list_top HL31.out _).2] at h9
  refine resB_of h9 0 rfl ?_
  rw [HPK.out, if_pos hodd]
 ·go_wp2_with (first
   | (go_at_call 137; (with_reducible refine (mulNA _ h1 hzi).mono ?_); rintro e wy ⟨zx, hzx, rfl, hb⟩; rw [hx31] at hzx; have HS := hide (HS.out.call hb))
   | (go_at_call 138; (with_reducible refine (oddNA _ hzx).mono ?_); rintro e wy ⟨rfl, hb⟩; rw [decide_eq_false hodd]; have HS := hide (HS.out.call hb))
   | (refine wl_loadP rfl rfl rfl HS.out (by (repeat first | exact .head _ | apply List.Mem.tail)) (by first | exact rowE | exact rowP | exact rowN | exact rowQ) (by (first | exact .q0 (EA.arr ‹_›) | exact .q1 (EA.arr ‹_›) (EA.arr ‹_›) | exact .q2 (EA.arr ‹_›) (EA.arr ‹_›) (EA.arr ‹_›) | exact .q3 (EA.arr ‹_›) (EA.arr ‹_›) (EA.arr ‹_›) (EA.arr ‹_›) | exact .q0 (NA.arr ‹_›) | exact .q1 (NA.arr ‹_›) (NA.arr ‹_›) | exact .q2 (NA.arr ‹_›) (NA.arr ‹_›) (NA.arr ‹_›) | exact .q3 (NA.arr ‹_›) (NA.arr ‹_›) (NA.arr ‹_›) (NA.arr ‹_›) | exact .all (by (first | exact EA.arr ‹_› | exact NA.arr ‹_› | exact arr_zE | exact arr_zN | exact arr_zP | exact arr_zQ | exact PtN.arr ‹_› | exact PtV.arr ‹_› | exact QtN.arr ‹_› | exact qE ‹_› ‹_› ‹_› ‹_› | exact qN ‹_› ‹_› ‹_› ‹_›)))) ?_; (try simp only [Act.put, nq1, nq2, nq3, nq4, nq5, nq6])) | (refine wl_storeR rfl rfl rfl rfl HS.out (by first | exact rowE | exact rowP | exact rowN | exact rowQ) (by (repeat first | exact .head | apply Upd.tail)) (by (first | exact EA.arr ‹_› | exact NA.arr ‹_› | exact arr_zE | exact arr_zN | exact arr_zP | exact arr_zQ | exact PtN.arr ‹_› | exact PtV.arr ‹_› | exact QtN.arr ‹_› | exact qE ‹_› ‹_› ‹_› ‹_› | exact qN ‹_› ‹_› ‹_› ‹_›)) (by (first | exact EA.arr ‹_› | exact NA.arr ‹_› | exact arr_zE | exact arr_zN | exact arr_zP | exact arr_zQ | exact PtN.arr ‹_› | exact PtV.arr ‹_› | exact QtN.arr ‹_› | exact qE ‹_› ‹_› ‹_› ‹_› | exact qN ‹_› ‹_› ‹_› ‹_›)) ?_; intro wz hS9; have HS := hide hS9; clear hS9; (try simp only [Act.put, nq1, nq2, nq3, nq4, nq5, nq6])) | (refine wl_allocR rfl rfl HS.out (by first | exact newE | exact newP | exact newN | exact newQ) ?_; intro gz wz hS9; have HS := hide hS9; clear hS9; (try simp only [Act.put, nq1, nq2, nq3, nq4, nq5, nq6])) | (refine wl_boxR rfl rfl rfl HS.out ?_; intro gz wz hS9; have HS := hide hS9; clear hS9; (try simp only [Act.put, nq1, nq2, nq3, nq4, nq5, nq6])))
  go_ret
  refine resB_of HS.out 0 rfl ?_
  rw [HPK.out, if_neg hodd]
end Go.Proofs.YtnohmgpmmhlloaaGreatDoor

namespace Go.Proofs.YtnohmgpmmhlloaaGreatDoor
open Go.RowKit
set_option linter.unusedSimpArgs false

section
variable {P : Program} {ops : Array Oper} {Q : Exit → Act → World → Prop} {rest : List Oper} {o : Oper} {a : Act} {w0 w : World} {M : Nat → Prop} {H : List Chunk} {t e : TypeId} {n g off : Nat} {x : Operand} {cs part : Array Value}
end
end Go.Proofs.YtnohmgpmmhlloaaGreatDoor

namespace Go.Proofs.YtnohmgpmmhlloaaGreatDoor
open Go.RowKit
set_option linter.unusedSimpArgs false

theorem mulV_far (l : List UInt8) (j : Nat) (h : l.length ≤ j / 8) : mulV l / 2 ^ j = 0 := by
 unfold mulV
 have h1 := bval_lt (l.take 32)
 refine Nat.div_eq_of_lt (Nat.lt_of_lt_of_le h1 ?_)
 rw [show (256 : Nat) = 2 ^ 8 from rfl, ← Nat.pow_mul]
 exact Nat.pow_le_pow_right (by decide) (by rw [List.length_take]; omega)
theorem timesQ {v : Array Value} {P : Ed} (A : Option Addr) (n c : Nat) (l : List UInt8) (w : World) (hv : QtN v P) (hl : l.length = n) (hn : n ≤ 1000) (hr : Rd w (.slice A n c) 1 n (bvs l)) :
  Calls Tryz.prog 100 #[.agg v, .slice A n c] w (ResQ w (tmE P (mulV l))) := by
 have HM := hide (show mulV l < 2 ^ 256 by
  unfold mulV
  have h1 := bval_lt (l.take 32)
  refine Nat.lt_of_lt_of_le h1 ?_
  rw [show (256 : Nat) = 2 ^ 8 from rfl, ← Nat.pow_mul]
  exact Nat.pow_le_pow_right (by decide) (by rw [List.length_take]; omega))
 have HBIT := hide (fun (j : Nat) (c : UInt8) (hc : l[j / 8]? = some c) (hj : j < 256) => show c.toNat / 2 ^ (j % 8) % 2 = mulV l / 2 ^ j % 2 from by
  have h : (l.take 32)[j / 8]? = some c := by rw [List.getElem?_take_of_lt (by omega)]; exact hc
  have := bval_bit (l.take 32) h (Nat.mod_lt j (by decide))
  rwa [Nat.div_add_mod] at this)
 have HFAR := hide (fun (j : Nat) (h : n ≤ j / 8) => mulV_far l j (by omega))
 have HR := hide hr
 have HL := hide hl
 generalize mulV l = V at *
 have HS := hide (St.init w NoB)
 clear hr hl
 go_enter Tryz.func100, Tryz.ntmps100
 go_wp2_with (first | (go_at_call 139; (with_reducible refine (zeroQ _).mono ?_); rintro e wy ⟨z, hz, rfl, hb⟩; have HS := hide (HS.out.call hb); clear hb) | (have _q := hz; refine wl_allocR rfl rfl HS.out newQ ?_; intro gz wz hS9; have HS := hide hS9; clear hS9; (try simp only [Act.put, nq1, nq2, nq3, nq4, nq5, nq6])) | (refine wl_allocR rfl rfl HS.out newQ ?_; intro gR wz hS9; have HS := hide hS9; clear hS9; (try simp only [Act.put, nq1, nq2, nq3, nq4, nq5, nq6])) | (refine wl_boxR rfl rfl rfl HS.out ?_; intro gP wz hS9; have HS := hide hS9; clear hS9; (try simp only [Act.put, nq1, nq2, nq3, nq4, nq5, nq6])) | (refine wl_loadP rfl rfl rfl HS.out (by (repeat first | exact .head _ | apply List.Mem.tail)) (by first | exact rowE | exact rowP | exact rowN | exact rowQ) (by (first | exact .q0 (EA.arr ‹_›) | exact .q1 (EA.arr ‹_›) (EA.arr ‹_›) | exact .q2 (EA.arr ‹_›) (EA.arr ‹_›) (EA.arr ‹_›) | exact .q3 (EA.arr ‹_›) (EA.arr ‹_›) (EA.arr ‹_›) (EA.arr ‹_›) | exact .q0 (NA.arr ‹_›) | exact .q1 (NA.arr ‹_›) (NA.arr ‹_›) | exact .q2 (NA.arr ‹_›) (NA.arr ‹_›) (NA.arr ‹_›) | exact .q3 (NA.arr ‹_›) (NA.arr ‹_›) (NA.arr ‹_›) (NA.arr ‹_›) | exact .all (by (first | exact EA.arr ‹_› | exact NA.arr ‹_› | exact arr_zE | exact arr_zN | exact arr_zP | exact arr_zQ | exact PtN.arr ‹_› | exact PtV.arr ‹_› | exact QtN.arr ‹_› | exact qE ‹_› ‹_› ‹_› ‹_› | exact qN ‹_› ‹_› ‹_› ‹_›)))) ?_; (try simp only [Act.put, nq1, nq2, nq3, nq4, nq5, nq6])) | (refine wl_storeR rfl rfl rfl rfl HS.out (by first | exact rowE | exact rowP | exact rowN | exact rowQ) (by (repeat first | exact .head | apply Upd.tail)) (by (first | exact EA.arr ‹_› | exact NA.arr ‹_› | exact arr_zE | exact arr_zN | exact arr_zP | exact arr_zQ | exact PtN.arr ‹_› | exact PtV.arr ‹_› | exact QtN.arr ‹_› | exact qE ‹_› ‹_› ‹_› ‹_› | exact qN ‹_› ‹_› ‹_› ‹_›)) (by (first | exact EA.arr ‹_› | exact NA.arr ‹_› | exact arr_zE | exact arr_zN | exact arr_zP | exact arr_zQ | exact PtN.arr ‹_› | exact PtV.arr ‹_› | exact QtN.arr ‹_› | exact qE ‹_› ‹_› ‹_› ‹_› | exact qN ‹_› ‹_› ‹_› ‹_›)) ?_; intro wz hS9; have HS := hide hS9; clear hS9; (try simp only [Act.put, nq1, nq2, nq3, nq4, nq5, nq6])) | (refine wl_allocR rfl rfl HS.out (by first | exact newE | exact newP | exact newN | exact newQ) ?_; intro gz wz hS9; have HS := hide hS9; clear hS9; (try simp only [Act.put, nq1, nq2, nq3, nq4, nq5, nq6])) | (refine wl_boxR rfl rfl rfl HS.out ?_; intro gz wz hS9; have HS := hide hS9; clear hS9; (try simp only [Act.put, nq1, nq2, nq3, nq4, nq5, nq6])))
 go_loopw [6] (fun iv wr => ∃ (j : Nat) (u : Array Value), j ≤ 256 ∧ iv = .int .i64 ((j : Int) - 1) ∧ Hid (QtN u (tmE P (V / 2 ^ j))) ∧ Hid (St w NoB wr [.cells gz u 132, .cells gR zQ 132, .cells gP v 132])) (fun iv _ => (1 + intOf iv).toNat)
 case atStart =>
  refine ⟨256, z, by omega, rfl, hide ?_, HS⟩
  rw [Nat.div_eq_of_lt HM.out]
  exact hz
 case round =>
  clear HS hz
  obtain ⟨j, u, hj, rfl, HU, HS⟩ := hrel
  cases j with
  | zero =>
   have e0 : ((0 : Nat) : Int) - 1 = -1 := by omega
   simp only [e0]
   have hu := HU.out
   go_wp2_with (first | (refine wl_loadP rfl rfl rfl HS.out (by (repeat first | exact .head _ | apply List.Mem.tail)) (by first | exact rowE | exact rowP | exact rowN | exact rowQ) (by (first | exact .q0 (EA.arr ‹_›) | exact .q1 (EA.arr ‹_›) (EA.arr ‹_›) | exact .q2 (EA.arr ‹_›) (EA.arr ‹_›) (EA.arr ‹_›) | exact .q3 (EA.arr ‹_›) (EA.arr ‹_›) (EA.arr ‹_›) (EA.arr ‹_›) | exact .q0 (NA.arr ‹_›) | exact .q1 (NA.arr ‹_›) (NA.arr ‹_›) | exact .q2 (NA.arr ‹_›) (NA.arr ‹_›) (NA.arr ‹_›) | exact .q3 (NA.arr ‹_›) (NA.arr ‹_›) (NA.arr ‹_›) (NA.arr ‹_›) | exact .all (by (first | exact EA.arr ‹_› | exact NA.arr ‹_› | exact arr_zE | exact arr_zN | exact arr_zP | exact arr_zQ | exact PtN.arr ‹_› | exact PtV.arr ‹_› | exact QtN.arr ‹_› | exact qE ‹_› ‹_› ‹_› ‹_› | exact qN ‹_› ‹_› ‹_› ‹_›)))) ?_; (try simp only [Act.put, nq1, nq2, nq3, nq4, nq5, nq6])) | (refine wl_storeR rfl rfl rfl rfl HS.out (by first | exact rowE | exact rowP | exact rowN | exact rowQ) (by (repeat first | exact .head | apply Upd.tail)) (by (first | exact EA.arr ‹_› | exact NA.arr ‹_› | exact arr_zE | exact arr_zN | exact arr_zP | exact arr_zQ | exact PtN.arr ‹_› | exact PtV.arr ‹_› | exact QtN.arr ‹_› | exact qE ‹_› ‹_› ‹_› ‹_› | exact qN ‹_› ‹_› ‹_› ‹_›)) (by (first | exact EA.arr ‹_› | exact NA.arr ‹_› | exact arr_zE | exact arr_zN | exact arr_zP | exact arr_zQ | exact PtN.arr ‹_› | exact PtV.arr ‹_› | exact QtN.arr ‹_› | exact qE ‹_› ‹_› ‹_› ‹_› | exact qN ‹_› ‹_› ‹_› ‹_›)) ?_; intro wz hS9; have HS := hide hS9; clear hS9; (try simp only [Act.put, nq1, nq2, nq3, nq4, nq5, nq6])) | (refine wl_allocR rfl rfl HS.out (by first | exact newE | exact newP | exact newN | exact newQ) ?_; intro gz wz hS9; have HS := hide hS9; clear hS9; (try simp only [Act.put, nq1, nq2, nq3, nq4, nq5, nq6])) | (refine wl_boxR rfl rfl rfl HS.out ?_; intro gz wz hS9; have HS := hide hS9; clear hS9; (try simp only [Act.put, nq1, nq2, nq3, nq4, nq5, nq6])))
   refine bodyPost_ret (results_cell_row rfl _ _ _ _ _ _ _ rfl (HS.out.heapM (by (repeat first | exact .head _ | apply List.Mem.tail))) Tryz.underlying132 rfl (by first | (rw [(EA.arr ‹_›).size]; kernel_rfl) | (rw [(NA.arr ‹_›).size]; kernel_rfl) | (rw [(qE ‹_› ‹_› ‹_› ‹_›).size]; kernel_rfl) | (rw [(qN ‹_› ‹_› ‹_› ‹_›).size]; kernel_rfl) | (rw [(PtN.arr ‹_›).size]; kernel_rfl) | (rw [(PtV.arr ‹_›).size]; kernel_rfl) | (rw [(QtN.arr ‹_›).size]; kernel_rfl))) rfl ?_
   rw [Nat.pow_zero, Nat.div_one] at hu
   exact ⟨_, hu, rfl, HS.out.below⟩
  | succ j =>
   have e1 : (((j + 1 : Nat) : Int) - 1) = (j : Int) := by omega
   simp only [e1]
   have di : decide ((0 : Int) ≤ (j : Int)) = true := by simp
   have j256 : (j : Int) < 256 := by omega
   obtain ⟨q, hq⟩ : ∃ q, q = j / 8 := ⟨_, rfl⟩
   obtain ⟨r, hrr⟩ : ∃ r, r = j % 8 := ⟨_, rfl⟩
   have tq : (j : Int).tdiv 8 = (q : Int) := by rw [Int.tdiv_eq_ediv_of_nonneg (by omega)]; omega
   have tr : (j : Int).tmod 8 = (r : Int) := by rw [Int.tmod_eq_emod_of_nonneg (by omega)]; omega
   have q32 : (q : Int) < 32 := by omega
   have r8 : (r : Int) < 8 := by omega
   have hu := HU.out
   have HSTEP := hide (tmE_bit P V j)
   have HJ := hide hj
   clear e1 hj
   by_cases hqn : q < n
   ·have dq : decide ((q : Int) < (n : Int)) = true := by simp; omega
    have qn : (q : Int) < (n : Int) := by omega
    obtain ⟨cb, hxb⟩ : ∃ cb, l[q]? = some cb := ⟨l[q]'(by have := HL.out; omega), List.getElem?_eq_getElem _⟩
    obtain ⟨b, o, rfl, hcb⟩ := rd_at' HR.out (bvs_get hxb)
    have hbl := World.block_lt_of_cell? _ _ hcb
    obtain ⟨ch, hch⟩ : ∃ c : Nat, c = cb.toNat := ⟨_, rfl⟩
    have hbit := HBIT.out j cb (by rw [← hq]; exact hxb) (by omega)
    have hc8 : ch < 256 := by rw [hch]; exact UInt8.toNat_lt _
    rw [← hch] at hcb hbit
    rw [← hrr] at hbit
    have HB := hide (fun W (h : Below w.heap.size w W) => (h.cell (p := ⟨b, o + q, none⟩) hbl).trans hcb)
    obtain ⟨bt, hbt⟩ : ∃ t, t = ch / 2 ^ r % 2 := ⟨_, rfl⟩
    obtain ⟨cs, hcs⟩ : ∃ t, t = ch / 2 ^ r := ⟨_, rfl⟩
    have s1 : (ch : Int) / 2 ^ r = (cs : Int) := by rw [hcs, Int.natCast_ediv, Int.natCast_pow]; rfl
    have cs8' : cs < 256 := by have := Nat.div_le_self ch (2 ^ r); omega
    have cs8 : (cs : Int) < 256 := by omega
    have s2 : bits .and .u8 (cs : Int) 1 = (bt : Int) := by rw [u8_and1 _ cs8', hbt, ← hcs]
    rw [← hbt] at hbit
    rw [← hbit] at HSTEP
    clear hbt hcs hbit cs8' hxb hch hcb hbl hq hrr hqn
    by_cases hb1 : bt = 1
    ·subst hb1
     rw [if_pos rfl] at HSTEP
     go_wp2_with (first | (go_at_call 118; (with_reducible refine (plusQ _ hu2 hv).mono ?_); rintro e wy ⟨zhu3, hu3, rfl, hb⟩; have HS := hide (HS.out.call hb); clear hb) | (go_at_call 118; (with_reducible refine (plusQ _ hu hu).mono ?_); rintro e wy ⟨zhu2, hu2, rfl, hb⟩; have HS := hide (HS.out.call hb); clear hb) | (refine wl_storeR rfl rfl rfl rfl HS.out rowQ .head (QtN.arr hu2) (QtN.arr hu3) ?_; intro wz hS9; have HS := hide hS9; have hq9 := HB.out _ hS9.below; clear hS9; (try simp only [Act.put, nq1, nq2, nq3, nq4, nq5, nq6])) | (refine wl_storeR rfl rfl rfl rfl HS.out rowQ .head (QtN.arr hu) (QtN.arr hu2) ?_; intro wz hS9; have HS := hide hS9; have hq9 := HB.out _ hS9.below; clear hS9; (try simp only [Act.put, nq1, nq2, nq3, nq4, nq5, nq6])) | (refine wl_loadP rfl rfl rfl HS.out (.tail _ (.tail _ (.head _))) rowQ (.all (QtN.arr hv)) ?_; (try simp only [Act.put, nq1, nq2, nq3, nq4, nq5, nq6])) | (refine wl_loadP rfl rfl rfl HS.out (.head _) rowQ (.all (QtN.arr hu2)) ?_; (try simp only [Act.put, nq1, nq2, nq3, nq4, nq5, nq6])) | (refine wl_loadP rfl rfl rfl HS.out (.head _) rowQ (.all (QtN.arr hu)) ?_; (try simp only [Act.put, nq1, nq2, nq3, nq4, nq5, nq6])))
     go_roundw
     case rel => exact ⟨j, _, by have := HJ.out; omega, by first | rfl | go_num, hide (by rw [HSTEP.out]; assumption), HS⟩
     case measure => (simp [intOf]) <;> omega
    ·have b0 : (((bt : Nat) : Int) == 1) = false := by simp; omega
     have b0' : (bt == 1) = false := by simp; omega
     have b0d : decide (((bt : Nat) : Int) = 1) = false := by simp; omega
     rw [if_neg hb1] at HSTEP
     clear hb1
     go_wp2_with (first | (go_at_call 118; (with_reducible refine (plusQ _ hu hu).mono ?_); rintro e wy ⟨zhu2, hu2, rfl, hb⟩; have HS := hide (HS.out.call hb); clear hb) | (refine wl_storeR rfl rfl rfl rfl HS.out rowQ .head (QtN.arr hu) (QtN.arr hu2) ?_; intro wz hS9; have HS := hide hS9; have hq9 := HB.out _ hS9.below; clear hS9; (try simp only [Act.put, nq1, nq2, nq3, nq4, nq5, nq6])) | (refine wl_loadP rfl rfl rfl HS.out (.head _) rowQ (.all (QtN.arr hu2)) ?_; (try simp only [Act.put, nq1, nq2, nq3, nq4, nq5, nq6])) | (refine wl_loadP rfl rfl rfl HS.out (.head _) rowQ (.all (QtN.arr hu)) ?_; (try simp only [Act.put, nq1, nq2, nq3, nq4, nq5, nq6])))
     go_roundw
     case rel => exact ⟨j, _, by have := HJ.out; omega, by first | rfl | go_num, hide (by rw [HSTEP.out]; assumption), HS⟩
     case measure => (simp [intOf]) <;> omega
   ·have dq : decide ((q : Int) < (n : Int)) = false := by simp; omega
    have dq2 : decide (q < n) = false := by simp; omega
    have nq : ¬ (q : Int) < (n : Int) := by omega
    have hfar := HFAR.out j (by omega)
    have HSTEP := hide (HSTEP.out.trans (if_neg (by rw [hfar]; decide)))
    clear hq hrr hqn hfar
    go_wp2_with (first | (go_at_call 118; (with_reducible refine (plusQ _ hu hu).mono ?_); rintro e wy ⟨zhu2, hu2, rfl, hb⟩; have HS := hide (HS.out.call hb); clear hb) | (refine wl_storeR rfl rfl rfl rfl HS.out rowQ .head (QtN.arr hu) (QtN.arr hu2) ?_; intro wz hS9; have HS := hide hS9; clear hS9; (try simp only [Act.put, nq1, nq2, nq3, nq4, nq5, nq6])) | (refine wl_loadP rfl rfl rfl HS.out (.head _) rowQ (.all (QtN.arr hu2)) ?_; (try simp only [Act.put, nq1, nq2, nq3, nq4, nq5, nq6])) | (refine wl_loadP rfl rfl rfl HS.out (.head _) rowQ (.all (QtN.arr hu)) ?_; (try simp only [Act.put, nq1, nq2, nq3, nq4, nq5, nq6])))
    go_roundw
    case rel => exact ⟨j, _, by have := HJ.out; omega, by first | rfl | go_num, hide (by rw [HSTEP.out]; assumption), HS⟩
    case measure => (simp [intOf]) <;> omega
end Go.Proofs.YtnohmgpmmhlloaaGreatDoor

namespace Go.Proofs.YtnohmgpmmhlloaaGreatDoor
open Go.RowKit
set_option linter.unusedSimpArgs false

theorem packQ32 {v : Array Value} {P : Ed} (w : World) (hv : QtN v P) : Calls Tryz.prog 99 #[.agg v] w fun e w' => ∃ A c, e = .returned (.slice A 32 c) ∧ Below w.heap.size w w' ∧ w'.ownsRow w.heap.size 5 1 (.slice A 32 c) 32 (bvs (packL P)) :=
 (packQ w hv).mono fun e w' h => by
  unfold ResB at h
  rw [packL_len] at h
  exact h
end Go.Proofs.YtnohmgpmmhlloaaGreatDoor

namespace Go.Proofs.YtnohmgpmmhlloaaGreatDoor
open Go.RowKit
set_option linter.unusedSimpArgs false

end Go.Proofs.YtnohmgpmmhlloaaGreatDoor

namespace Go.Proofs.YtnohmgpmmhlloaaGreatDoor
open Go.RowKit
set_option linter.unusedSimpArgs false
def ob (c : Nat) : Nat := if c < 128 then c + 128 else c
end Go.Proofs.YtnohmgpmmhlloaaGreatDoor

namespace Go.Proofs.YtnohmgpmmhlloaaGreatDoor.S3
open Go.RowKit
set_option linter.unusedSimpArgs false

theorem rd_at' {w : World} {B : Option Addr} {n d : Nat} {xs : List Value} {k : Nat} {u : Value} (h : Rd w (.slice B n d) 1 n xs) (hk : xs[k]? = some u) : ∃ b o, B = some ⟨b, o, none⟩ ∧ w.cell? ⟨b, o + k, none⟩ = some u := by
 rcases h.cases with ⟨_, _, h0⟩ | ⟨b, o, sp, c', hv, _, _, _, hl, h4, hc⟩
 ·rw [h0] at hk; simp at hk
 ·injection hv with hv1 _ _
  have hkl : k < xs.length := (List.getElem?_eq_some_iff.1 hk).1
  have := h4 (by omega)
  subst this hv1
  exact ⟨b, o, rfl, hc k u hk⟩
def ivs (xs : List Int) : List Value := xs.map (.int .i64 ·)
theorem ivs_len (xs : List Int) : (ivs xs).length = xs.length := by simp [ivs]
theorem ivs_get {xs : List Int} {k : Nat} {x : Int} (h : xs[k]? = some x) : (ivs xs).toArray[k]? = some (.int .i64 x) := by simp [ivs, h]
theorem ivs_set (xs : List Int) (k : Nat) (x : Int) : (ivs xs).toArray.setIfInBounds k (.int .i64 x) = (ivs (xs.set k x)).toArray := by simp [ivs, List.map_set]
theorem ivs_all (xs : List Int) : (ivs xs).toArray.all (·.oneCell') = true := by
 rw [Array.all_eq_true_iff_forall_mem]
 intro v hv
 simp only [ivs, List.mem_toArray, List.mem_map] at hv
 obtain ⟨x, _, rfl⟩ := hv
 rfl
def dv : List Int → Int
 | [] => 0
 | x :: xs => x + 256 * dv xs
theorem dv_append : ∀ (xs ys : List Int), dv (xs ++ ys) = dv xs + 256 ^ xs.length * dv ys
 | [], ys => by simp [dv]
 | x :: xs, ys => by
  simp only [List.cons_append, dv, dv_append xs ys, List.length_cons]
  rw [Int.pow_succ, Int.mul_add, Int.add_assoc, ← Int.mul_assoc, Int.mul_comm 256 (256 ^ xs.length)]
theorem dv_take {xs : List Int} {k : Nat} {x : Int} (h : xs[k]? = some x) : dv (xs.take (k + 1)) = dv (xs.take k) + x * 256 ^ k := by
 have hk := (List.getElem?_eq_some_iff.1 h).1
 rw [List.take_add_one, h, Option.toList_some, dv_append, List.length_take, Nat.min_eq_left (by omega)]
 simp only [dv, Int.mul_zero, Int.add_zero]
 rw [Int.mul_comm]
theorem getD_of {xs : List Int} {k : Nat} {x : Int} (h : xs[k]? = some x) : xs.getD k 0 = x := by rw [List.getD_eq_getElem?_getD, h]; rfl
theorem some_getD {xs : List Int} {k : Nat} (h : k < xs.length) : xs[k]? = some (xs.getD k 0) := by rw [List.getD_eq_getElem?_getD, List.getElem?_eq_getElem h]; rfl
theorem getD_set (xs : List Int) (k j : Nat) (y : Int) : (xs.set k y).getD j 0 = if k = j ∧ k < xs.length then y else xs.getD j 0 := by
 simp only [List.getD_eq_getElem?_getD, List.getElem?_set]
 split
 ·rename_i h
  subst h
  split
  ·rename_i h; rw [if_pos ⟨rfl, h⟩]; rfl
  ·rename_i h; rw [if_neg (fun x => h x.2), List.getElem?_eq_none (by omega)]
 ·rename_i h
  rw [if_neg (fun x => h x.1)]
theorem dv_set : ∀ (xs : List Int) (k : Nat) (y : Int), k < xs.length → dv (xs.set k y) = dv xs + (y - xs.getD k 0) * 256 ^ k
 | [], k, y, h => by simp at h
 | x :: xs, 0, y, h => by simp [dv]; omega
 | x :: xs, k + 1, y, h => by
  have ih := dv_set xs k y (by simpa using h)
  simp only [List.set_cons_succ, dv, List.getD_cons_succ, ih, Int.pow_succ, Int.mul_add]
  rw [show 256 * ((y - xs.getD k 0) * 256 ^ k) = (y - xs.getD k 0) * (256 ^ k * 256) from by rw [Int.mul_comm 256, Int.mul_assoc]]
  omega
def Byt (xs : List Int) : Prop := ∀ x ∈ xs, 0 ≤ x ∧ x < 256
theorem dv_byt : ∀ (xs : List Int), Byt xs → 0 ≤ dv xs ∧ dv xs < 256 ^ xs.length
 | [], _ => by simp [dv]
 | x :: xs, h => by
  have ih := dv_byt xs fun y hy => h y (List.mem_cons_of_mem _ hy)
  have hx := h x (List.mem_cons_self ..)
  simp only [dv, List.length_cons, Int.pow_succ]
  omega
theorem byt_getD {xs : List Int} (h : Byt xs) (k : Nat) : 0 ≤ xs.getD k 0 ∧ xs.getD k 0 < 256 := by
 rw [List.getD_eq_getElem?_getD]
 cases hg : xs[k]? with
 | none => simp
 | some x => exact h x (List.mem_of_getElem? hg)
theorem byt_take {xs : List Int} (h : Byt xs) (k : Nat) : Byt (xs.take k) := fun x hx => h x (List.mem_of_mem_take hx)
def rwL (l : List UInt8) : List Int := l.map (fun c => (c.toNat : Int))
theorem rwL_byt (l : List UInt8) : Byt (rwL l) := fun x hx => by
 simp only [rwL, List.mem_map] at hx
 obtain ⟨c, _, rfl⟩ := hx
 have := UInt8.toNat_lt c
 omega
theorem rwL_dv : ∀ l : List UInt8, dv (rwL l) = (bval l : Int)
 | [] => rfl
 | c :: l => by
  show (c.toNat : Int) + 256 * dv (rwL l) = _
  rw [rwL_dv l, bval]
  omega
theorem byt_leB : ∀ (xs : List Int), Byt xs → xs.map (fun x => UInt8.ofNat x.toNat) = leB xs.length (dv xs).toNat
 | [], _ => rfl
 | x :: xs, h => by
  have ih := byt_leB xs fun y hy => h y (List.mem_cons_of_mem _ hy)
  have hx := h x (List.mem_cons_self ..)
  have hn := dv_byt xs fun y hy => h y (List.mem_cons_of_mem _ hy)
  rw [List.map_cons, ih, List.length_cons, leB, dv]
  rw [show (x + 256 * dv xs).toNat % 256 = x.toNat from by omega, show (x + 256 * dv xs).toNat / 256 = (dv xs).toNat from by omega]
theorem i64_and255 (x : Int) : bits .and .i64 x 255 = x % 256 := by
 have e : ((BitVec.ofInt 64 x &&& BitVec.ofInt 64 255).toNat : Int) = x % 256 := by
  rw [BitVec.toNat_and, BitVec.toNat_ofInt, BitVec.toNat_ofInt]
  rw [show ((255 : Int) % ((2 ^ 64 : Nat) : Int)).toNat = 255 from by decide, nat_mask8]
  have : ((2 ^ 64 : Nat) : Int) = 18446744073709551616 := by decide
  rw [this]
  omega
 show IntKind.i64.wrap ((BitVec.ofInt 64 x &&& BitVec.ofInt 64 255).toNat : Int) = _
 rw [e, IntKind.wrap_i64]
 omega
theorem i64_and1 (x : Int) : bits .and .i64 x 1 = x % 2 := by
 have e : ((BitVec.ofInt 64 x &&& BitVec.ofInt 64 1).toNat : Int) = x % 2 := by
  rw [BitVec.toNat_and, BitVec.toNat_ofInt, BitVec.toNat_ofInt]
  rw [show ((1 : Int) % ((2 ^ 64 : Nat) : Int)).toNat = 1 from by decide, nat_mask1]
  have : ((2 ^ 64 : Nat) : Int) = 18446744073709551616 := by decide
  rw [this]
  omega
 show IntKind.i64.wrap ((BitVec.ofInt 64 x &&& BitVec.ofInt 64 1).toNat : Int) = _
 rw [e, IntKind.wrap_i64]
 omega
def ordL : List Int := [0xed, 0xd3, 0xf5, 0x5c, 0x1a, 0x63, 0x12, 0x58, 0xd6, 0x9c, 0xf7, 0xa2, 0xde, 0xf9, 0xde, 0x14, 0, 0, 0, 0, 0, 0, 0, 0, 0, 0, 0, 0, 0, 0, 0, 0x10]
theorem ordL_dv : dv ordL = (Lq : Int) := by unfold Lq; decide +kernel
theorem ordL_byt : Byt ordL := by unfold Byt; decide
theorem Lq_pow : (Lq : Int) < 256 ^ 32 ∧ 0 < (Lq : Int) := by unfold Lq; decide +kernel
def Abv (x : List Int) (i : Nat) : Prop := dv x - (Lq : Int) = dv (x.take i) - dv (ordL.take i)
theorem abv_start {x : List Int} (hl : x.length = 33) (h0 : x.getD 32 0 = 0) : Abv x 32 := by
 have hx := some_getD (xs := x) (k := 32) (by omega)
 have h := dv_take hx
 rw [List.take_of_length_le (by omega), h0, Int.zero_mul, Int.add_zero] at h
 unfold Abv
 rw [h, List.take_of_length_le (l := ordL) (by decide), ordL_dv]
theorem abv_step {x : List Int} (hl : x.length = 33) {i : Nat} (hi : i < 32) (h : Abv x (i + 1)) (he : x.getD i 0 = ordL.getD i 0) : Abv x i := by
 unfold Abv at h ⊢
 rw [h, dv_take (some_getD (xs := x) (k := i) (by omega)), dv_take (some_getD (xs := ordL) (k := i) (by simpa [ordL] using hi)), he]
 omega
theorem abv_end {x : List Int} (h : Abv x 0) : decide (dv x < (Lq : Int)) = false := by
 unfold Abv at h
 simp only [List.take_zero, dv] at h
 rw [decide_eq_false_iff_not]
 omega
theorem abv_ne {x : List Int} (hl : x.length = 33) (hb : Byt x) {i : Nat} (hi : i < 32) (h : Abv x (i + 1)) (he : x.getD i 0 ≠ ordL.getD i 0) : decide (x.getD i 0 < ordL.getD i 0) = decide (dv x < (Lq : Int)) := by
 unfold Abv at h
 have h1 := dv_take (some_getD (xs := x) (k := i) (by omega))
 have h2 := dv_take (some_getD (xs := ordL) (k := i) (by simpa [ordL] using hi))
 have b1 := dv_byt _ (byt_take hb i)
 have b2 := dv_byt _ (byt_take ordL_byt i)
 rw [List.length_take, Nat.min_eq_left (by omega)] at b1
 rw [List.length_take, Nat.min_eq_left (by simp [ordL]; omega)] at b2
 rw [h1, h2] at h
 generalize x.getD i 0 = a at *
 generalize ordL.getD i 0 = b at *
 generalize (256 : Int) ^ i = T at *
 have hT : 0 < T := by omega
 rw [decide_eq_decide]
 constructor
 ·intro hab
  have : (a + 1) * T ≤ b * T := Int.mul_le_mul_of_nonneg_right (by omega) (by omega)
  rw [Int.add_mul, Int.one_mul] at this
  omega
 ·intro hd
  rcases Int.lt_trichotomy a b with h3 | h3 | h3
  ·exact h3
  ·exact absurd h3 he
  ·have : (b + 1) * T ≤ a * T := Int.mul_le_mul_of_nonneg_right (by omega) (by omega)
   rw [Int.add_mul, Int.one_mul] at this
   omega
theorem big_not {x : List Int} (hl : x.length = 33) (hb : Byt x) (h0 : 0 < x.getD 32 0) : decide (dv x < (Lq : Int)) = false := by
 have h := dv_take (some_getD (xs := x) (k := 32) (by omega))
 have b1 := dv_byt _ (byt_take hb 32)
 have hp := Lq_pow
 rw [List.take_of_length_le (by omega)] at h
 generalize x.getD 32 0 = a at *
 generalize (256 : Int) ^ 32 = T at *
 have : 1 * T ≤ a * T := Int.mul_le_mul_of_nonneg_right (by omega) (by omega)
 rw [decide_eq_false_iff_not]
 omega
theorem enOrdR (args : Array Value) (w : World) : (callFunc 143 args).run Tryz.prog w = .ok (.enter 143 args) w := by kernel_rfl
@[irreducible] def ordA : Array Value := (ivs ordL).toArray
@[irreducible] def zer32 : Array Value := (ivs (List.replicate 32 0)).toArray
theorem zero32v (w : World) : (zeroValue 184).run Tryz.prog w = .ok (.agg zer32) w := by unfold zer32; kernel_rfl
theorem ordA_eq : ordA = (ivs ordL).toArray := by unfold ordA; rfl
theorem ordA_size : ordA.size = 32 := by unfold ordA; rfl
theorem ordA_get {k : Nat} (h : k < 32) : ordA[k]? = some (.int .i64 (ordL.getD k 0)) := by
 rw [ordA_eq]
 exact ivs_get (some_getD h)
theorem wl_run {P : Program} {ops : Array Oper} {rest : List Oper} {o : Oper} {a : Act} {w : World} {Q : Exit → Act → World → Prop} (hgd : o.guard = none) {v : Value} (hrun : (execOp a.eval o).run P w = .ok (.value v) w)
  (h : wpList P ops Q rest (a.put o.dst v) w) : wpList P ops Q (o :: rest) a w :=
 wpList_plain hgd fun K hK => by
  unfold Oper.wp
  rw [hrun, Oper.upon_value]
  exact hK _ _ h
theorem order_r (w : World) : Calls Tryz.prog 143 #[] w fun e w' => e = .returned (.agg ordA) ∧ Below w.heap.size w w' := by
 have HS0 := hide ((St.init w NoB).alloc zer32 184)
 have hz := zero32v
 go_enter Tryz.func143, Tryz.ntmps143
 go_upto_region 1 with fail
 refine wp_region_list ?_
 refine wl_run rfl (v := .agg ordA) (by unfold ordA; kernel_rfl) ?_
 refine wpList_store_row rfl 184 (.tmp 0) (.tmp 1) rfl w.heap.size ordA rfl rfl 184 zer32 (HS0.out.heap 0 rfl) (by unfold ordA; kernel_rfl) (by unfold ordA zer32; rfl) (by unfold ordA; kernel_rfl) ?_
 refine wpList_nil ?_
 have HS := hide (HS0.out.setRow 0 rfl ordA)
 go_wp2_with fail
 refine bodyPost_ret (results_cell_row rfl _ _ w.heap.size _ _ _ _ rfl (HS.out.heap 0 rfl) Tryz.underlying184 rfl (by unfold ordA; kernel_rfl)) rfl ?_
 exact ⟨rfl, HS.out.below⟩
section
variable {P : Program} {ops : Array Oper} {rest : List Oper} {o : Oper} {a : Act} {w : World} {Q : Exit → Act → World → Prop}
theorem wl_callN (hgd : o.guard = none) {f : FuncId} {xs : List Operand} {ts : Array TypeId} {vs : List Value} {R : Ending → World → Prop}
  (ho : o.op = .call { callee := .value (.func f), args := xs.toArray, argTypes := ts }) (hf : ∀ (args : Array Value) (w : World), (callFunc f args).run P w = .ok (.enter f args) w)
  (hx : xs.map a.eval = vs) (hc : Calls P f vs.toArray w R) (h : ∀ e w', R e w' → ∃ v, e = .returned v ∧ wpList P ops Q rest (a.put o.dst v) w') : wpList P ops Q (o :: rest) a w :=
 wpList_plain hgd fun _ hK => wp_call ho hf hx hc fun e w' hr => by
  obtain ⟨v, he, hk⟩ := h e w' hr
  exact ⟨v, he, hK _ _ hk⟩
end
def BlRel (w : World) (g : Nat) (xs : List Int) (iv : Value) (wr : World) : Prop :=
 ∃ j : Nat, j ≤ 32 ∧ iv = .int .i64 ((j : Int) - 1) ∧ Abv xs j ∧ St w NoB wr [.cells g ordA 184, .cells w.heap.size (ivs xs).toArray 186]
theorem below_r (xs : List Int) (w : World) (hl : xs.length = 33) (hb : Byt xs) :
  Calls Tryz.prog 144 #[.agg (ivs xs).toArray] w fun e w' => e = .returned (.bool (decide (dv xs < (Lq : Int)))) ∧ Below w.heap.size w w' := by
 have HL := hide hl
 have HB := hide hb
 obtain ⟨bb, hbb⟩ : ∃ b, b = decide (dv xs < (Lq : Int)) := ⟨_, rfl⟩
 rw [← hbb]
 have HBB := hide hbb
 have HS0 := hide ((St.init w NoB).alloc (ivs xs).toArray 186)
 have hz := zero32v
 clear hl hb hbb
 go_enter Tryz.func144, Tryz.ntmps144
 go_upto_region 1 with fail
 refine wp_region_list ?_
 refine wl_callN rfl rfl enOrdR rfl (order_r _) ?_
 rintro e w1 ⟨rfl, hb1⟩
 refine ⟨_, rfl, ?_⟩
 have HS1 := hide (HS0.out.call hb1)
 refine wpList_plain rfl ?_
 intro K hK
 go_simp
 refine hK _ _ ?_
 clear hK K
 have HS2 := hide (HS1.out.alloc zer32 184)
 obtain ⟨g, hg⟩ : ∃ g, g = w1.heap.size := ⟨_, rfl⟩
 rw [← hg] at HS2
 have HS3 := hide (show St w NoB _ [.cells g ordA 184, .cells w.heap.size (ivs xs).toArray 186] from HS2.out.setRow 0 rfl ordA)
 refine wpList_store_row rfl 184 (.tmp 3) (.tmp 5) rfl g ordA (by rw [hg]; rfl) rfl 184 _ (HS2.out.heap 0 rfl) (by rw [ordA_size]; kernel_rfl) (by rw [ordA_size]; unfold zer32; rfl) (by unfold ordA; kernel_rfl) ?_
 refine wpList_nil ?_
 have hgE : w1.heap.size = g := hg.symm
 simp only [hgE]
 generalize ((w1.alloc (.cells zer32 184)).setRow g ordA) = wq at HS3 ⊢
 clear hgE hg HS2 HS1 hb1 hz
 have c32 : wq.cell? ⟨w.heap.size, 32, none⟩ = some (.int .i64 (xs.getD 32 0)) := by rw [HS3.out.cell 1 rfl 32]; exact ivs_get (some_getD (by rw [HL.out]; omega))
 have h32 := byt_getD HB.out 32
 have HAB := hide (fun h0 => abv_start HL.out h0)
 have HBG := hide (fun h0 => big_not HL.out HB.out h0)
 obtain ⟨t, ht⟩ : ∃ t, t = xs.getD 32 0 := ⟨_, rfl⟩
 rw [← ht] at c32 h32 HAB HBG
 clear ht
 by_cases ht0 : 0 < t
 ·have d0 : decide (0 < t) = true := by simp; omega
  have hbf := HBB.out
  rw [HBG.out ht0] at hbf
  subst hbf
  go_wp2_with fail
  go_ret
  exact ⟨rfl, HS3.out.below⟩
 ·have d0 : decide (0 < t) = false := by simp; omega
  have HA := hide (HAB.out (by omega))
  clear ht0 HAB HBG
  go_wp2_with fail
  go_loopw [4] (fun i wr => BlRel w g xs i wr) (fun i _ => (intOf i + 1).toNat)
  case atStart => exact ⟨32, by omega, rfl, HA.out, HS3.out⟩
  case round =>
   clear HS3 c32 h32 d0 HA
   obtain ⟨j, hj, rfl, hA, hS⟩ := hrel
   have HA := hide hA
   have HS := hide hS
   cases j with
   | zero =>
    have hbf := HBB.out
    rw [abv_end hA] at hbf
    subst hbf
    clear hA hS
    go_wp2_with fail
    go_ret
    exact ⟨rfl, HS.out.below⟩
   | succ i =>
    have dj : decide ((0 : Int) ≤ (i : Int)) = true := by simp
    have i33 : (i : Int) < 33 := by omega
    have i32 : (i : Int) < 32 := by omega
    have e1 : (((i + 1 : Nat) : Int) - 1) = (i : Int) := by omega
    have c0 : wr.drew.cell? ⟨w.heap.size, i, none⟩ = some (.int .i64 (xs.getD i 0)) := by rw [hS.drew.cell 1 rfl i]; exact ivs_get (some_getD (by rw [HL.out]; omega))
    have c1 : wr.drew.cell? ⟨g, i, none⟩ = some (.int .i64 (ordL.getD i 0)) := by rw [hS.drew.cell 0 rfl i]; exact ordA_get (by omega)
    have HST := hide (fun he => abv_step HL.out (i := i) (by omega) hA he)
    have HNE := hide (fun he => abv_ne HL.out HB.out (i := i) (by omega) hA he)
    rw [← HBB.out] at HNE
    obtain ⟨x, hx⟩ : ∃ x, x = xs.getD i 0 := ⟨_, rfl⟩
    obtain ⟨y, hy⟩ : ∃ x, x = ordL.getD i 0 := ⟨_, rfl⟩
    rw [← hx] at c0 HST HNE
    rw [← hy] at c1 HST HNE
    clear hx hy hA hS
    simp only [e1]
    by_cases hxy : x = y
    ·have dn : (x != y) = false := by simp [hxy]
     have dn2 : decide (x = y) = true := by simp [hxy]
     have HA2 := hide (HST.out hxy)
     subst hxy
     clear HST HNE
     go_upto_region 7 with fail
     refine wp_region_T [(0, 1), (1, 1), (2, 0), (3, 1), (4, 1), (5, 0), (6, 1)] (by kernel_rfl) (by kernel_rfl) (fun _ _ _ _ h => h) ?_
     go_wp2_with (first | (refine wpT_nil ?_)   | ((with_reducible refine fromT_refl ?_); (try simp only [Act.put, nq1, nq2, nq3, nq4, nq5, nq6]))   | ((with_reducible refine fromT_mk (by assumption) ?_); (try simp only [Act.put, nq1, nq2, nq3, nq4, nq5, nq6]))   | (refine wpT_pure (v := ?_) rfl rfl ?_ ?_; rotate_left; (intro wx; go_simp; try go_bits) <;> (with_reducible rfl); (try simp only [Act.put, nq1, nq2, nq3, nq4, nq5, nq6]))   | (refine wpT_load (v := ?_) rfl rfl rfl ?_ ?_; rotate_left; (go_simp; try go_bits) <;> (with_reducible rfl); (try simp only [Act.put, nq1, nq2, nq3, nq4, nq5, nq6]))   | (refine wpT_read (v := ?_) rfl rfl ?_ ?_; rotate_left; (intro wx hx; go_simp; try go_bits) <;> (with_reducible rfl); (try simp only [Act.put, nq1, nq2, nq3, nq4, nq5, nq6]))   | (refine wpT_call rfl rfl ?_; intro K hK)   | (refine wpT_late rfl rfl ?_; intro K hK)   | (refine wpT_any rfl rfl ?_; intro K hK)   | (refine wpT_skip rfl rfl ?_; (try simp only [Act.put, nq1, nq2, nq3, nq4, nq5, nq6])))
     go_roundw
     case rel => exact ⟨i, by omega, by go_num, HA2.out, HS.out.drew⟩
     case measure => (simp [intOf]) <;> omega
    ·have dn : (x != y) = true := by simp [hxy]
     have dn2 : decide (x = y) = false := by simp [hxy]
     have HN := HNE.out hxy
     clear HST HNE hxy
     go_upto_region 7 with fail
     refine wp_region_T [(0, 1), (1, 1), (2, 0), (3, 1), (4, 1), (5, 0), (6, 1)] (by kernel_rfl) (by kernel_rfl) (fun _ _ _ _ h => h) ?_
     go_wp2_with (first | (refine wpT_nil ?_)   | ((with_reducible refine fromT_refl ?_); (try simp only [Act.put, nq1, nq2, nq3, nq4, nq5, nq6]))   | ((with_reducible refine fromT_mk (by assumption) ?_); (try simp only [Act.put, nq1, nq2, nq3, nq4, nq5, nq6]))   | (refine wpT_pure (v := ?_) rfl rfl ?_ ?_; rotate_left; (intro wx; go_simp; try go_bits) <;> (with_reducible rfl); (try simp only [Act.put, nq1, nq2, nq3, nq4, nq5, nq6]))   | (refine wpT_load (v := ?_) rfl rfl rfl ?_ ?_; rotate_left; (go_simp; try go_bits) <;> (with_reducible rfl); (try simp only [Act.put, nq1, nq2, nq3, nq4, nq5, nq6]))   | (refine wpT_read (v := ?_) rfl rfl ?_ ?_; rotate_left; (intro wx hx; go_simp; try go_bits) <;> (with_reducible rfl); (try simp only [Act.put, nq1, nq2, nq3, nq4, nq5, nq6]))   | (refine wpT_call rfl rfl ?_; intro K hK)   | (refine wpT_late rfl rfl ?_; intro K hK)   | (refine wpT_any rfl rfl ?_; intro K hK)   | (refine wpT_skip rfl rfl ?_; (try simp only [Act.put, nq1, nq2, nq3, nq4, nq5, nq6])))
     refine wp_region_T [(0, 1), (1, 1), (2, 0), (3, 1), (4, 1), (5, 0), (6, 1), (7, 1)] (by kernel_rfl) (by kernel_rfl) (fun _ _ _ _ h => h) ?_
     go_wp2_with (first | (refine wpT_nil ?_)   | ((with_reducible refine fromT_refl ?_); (try simp only [Act.put, nq1, nq2, nq3, nq4, nq5, nq6]))   | ((with_reducible refine fromT_mk (by assumption) ?_); (try simp only [Act.put, nq1, nq2, nq3, nq4, nq5, nq6]))   | (refine wpT_pure (v := ?_) rfl rfl ?_ ?_; rotate_left; (intro wx; go_simp; try go_bits) <;> (with_reducible rfl); (try simp only [Act.put, nq1, nq2, nq3, nq4, nq5, nq6]))   | (refine wpT_load (v := ?_) rfl rfl rfl ?_ ?_; rotate_left; (go_simp; try go_bits) <;> (with_reducible rfl); (try simp only [Act.put, nq1, nq2, nq3, nq4, nq5, nq6]))   | (refine wpT_read (v := ?_) rfl rfl ?_ ?_; rotate_left; (intro wx hx; go_simp; try go_bits) <;> (with_reducible rfl); (try simp only [Act.put, nq1, nq2, nq3, nq4, nq5, nq6]))   | (refine wpT_call rfl rfl ?_; intro K hK)   | (refine wpT_late rfl rfl ?_; intro K hK)   | (refine wpT_any rfl rfl ?_; intro K hK)   | (refine wpT_skip rfl rfl ?_; (try simp only [Act.put, nq1, nq2, nq3, nq4, nq5, nq6])))
     go_ret
     exact ⟨rfl, HS.out.drew.drew.below⟩
theorem zero33v (w : World) : (zeroValue 186).run Tryz.prog w = .ok (.agg (ivs (List.replicate 33 0)).toArray) w := by kernel_rfl
theorem rwL_len (l : List UInt8) : (rwL l).length = l.length := by simp [rwL]
theorem rwL_get {l : List UInt8} {k : Nat} {c : UInt8} (h : l[k]? = some c) : (rwL l)[k]? = some (c.toNat : Int) := by simp [rwL, h]
theorem enBelowR (args : Array Value) (w : World) : (callFunc 144 args).run Tryz.prog w = .ok (.enter 144 args) w := by kernel_rfl
end Go.Proofs.YtnohmgpmmhlloaaGreatDoor.S3

namespace Go.Proofs.YtnohmgpmmhlloaaGreatDoor.S3
open Go.RowKit
set_option linter.unusedSimpArgs false

def crS (c : Int) (ys : List Int) : Nat → Int
 | 0 => c
 | k + 1 => (crS c ys k + ys.getD k 0) / 256
def dgS (c : Int) (ys : List Int) (k : Nat) : Int := (crS c ys k + ys.getD k 0) % 256
def dgL (c : Int) (ys : List Int) (k : Nat) : List Int := (List.range k).map (dgS c ys)
theorem dgL_len (c : Int) (ys : List Int) (k : Nat) : (dgL c ys k).length = k := by simp [dgL]
theorem dgL_succ (c : Int) (ys : List Int) (k : Nat) : dgL c ys (k + 1) = dgL c ys k ++ [dgS c ys k] := by unfold dgL; rw [List.range_succ, List.map_append]; rfl
theorem dgL_byt (c : Int) (ys : List Int) (k : Nat) : Byt (dgL c ys k) := fun x hx => by
 simp only [dgL, List.mem_map] at hx
 obtain ⟨j, _, rfl⟩ := hx
 unfold dgS
 omega
theorem split256 (T s : Int) : T * (s % 256) + T * 256 * (s / 256) = T * s := by
 rw [Int.mul_assoc, ← Int.mul_add, Int.emod_add_mul_ediv]
theorem dgL_dv (c : Int) (ys : List Int) : ∀ k, k ≤ ys.length → dv (dgL c ys k) + 256 ^ k * crS c ys k = c + dv (ys.take k)
 | 0, _ => by simp [dgL, crS, dv]
 | k + 1, h => by
  have hx : ys[k]? = some ys[k] := List.getElem?_eq_getElem (by omega)
  have hs := getD_of hx
  have ih := dgL_dv c ys k (by omega)
  rw [dgL_succ, dv_append, dgL_len, dv_take hx]
  simp only [dv, Int.mul_zero, Int.add_zero, dgS, crS, hs, Int.pow_succ]
  have h1 := split256 ((256 : Int) ^ k) (crS c ys k + ys[k])
  rw [Int.mul_add] at h1
  rw [Int.mul_comm ys[k]]
  omega
theorem crS_bd (c : Int) (ys : List Int) (hc : -4 ≤ c ∧ c ≤ 4) (hy : ∀ k, -512 ≤ ys.getD k 0 ∧ ys.getD k 0 ≤ 512) : ∀ k, -4 ≤ crS c ys k ∧ crS c ys k ≤ 4
 | 0 => hc
 | k + 1 => by
  have ih := crS_bd c ys hc hy k
  have := hy k
  rw [crS]
  omega
theorem dgL_all (c : Int) (ys : List Int) (hl : ys.length = 33) (h0 : 0 ≤ c + dv ys) (h1 : c + dv ys < 256 ^ 33) : dv (dgL c ys 33) = c + dv ys := by
 have h := dgL_dv c ys 33 (by omega)
 rw [List.take_of_length_le (by omega)] at h
 have hb := dv_byt _ (dgL_byt c ys 33)
 rw [dgL_len] at hb
 generalize crS c ys 33 = k at *
 have hT : (256 : Int) ^ 33 = 29642774844752946028434172162224104410437116074403984394101141506025761187823616 := by decide
 rw [hT] at h hb h1
 omega
def wkS (c : Int) (ys xs : List Int) (k : Nat) : List Int := dgL c ys k ++ xs.drop k
theorem wkS_get (c : Int) (ys xs : List Int) (h : xs.length = 33) {k : Nat} (hk : k < 33) : (wkS c ys xs k)[k]? = some (xs.getD k 0) := by
 unfold wkS
 rw [List.getElem?_append_right (by rw [dgL_len]; omega), dgL_len, Nat.sub_self, List.getElem?_drop, Nat.add_zero]
 exact some_getD (by omega)
theorem wkS_set (c : Int) (ys xs : List Int) (h : xs.length = 33) {k : Nat} (hk : k < 33) : (wkS c ys xs k).set k (dgS c ys k) = wkS c ys xs (k + 1) := by
 unfold wkS
 rw [List.set_append_right _ _ (by rw [dgL_len]; omega), dgL_len, Nat.sub_self, List.drop_eq_getElem_cons (by omega), List.set_cons_zero, dgL_succ, List.append_assoc]
 rfl
theorem wkS_all (c : Int) (ys xs : List Int) (h : xs.length = 33) : wkS c ys xs 33 = dgL c ys 33 := by
 unfold wkS
 rw [List.drop_of_length_le (by omega), List.append_nil]
def dbL (xs : List Int) : List Int := xs.map (2 * ·)
def sbL (xs : List Int) : List Int := List.zipWith (· - ·) xs (ordL ++ [0])
theorem dbL_dv : ∀ xs : List Int, dv (dbL xs) = 2 * dv xs
 | [] => rfl
 | x :: xs => by
  show 2 * x + 256 * dv (dbL xs) = _
  rw [dbL_dv xs, dv]
  omega
theorem dv_zip : ∀ (xs ys : List Int), xs.length = ys.length → dv (List.zipWith (· - ·) xs ys) = dv xs - dv ys
 | [], [], _ => rfl
 | x :: xs, y :: ys, h => by
  simp only [List.zipWith_cons_cons, dv, dv_zip xs ys (by simpa using h)]
  omega
 | [], _ :: _, h => by simp at h
 | _ :: _, [], h => by simp at h
theorem sbL_dv {xs : List Int} (h : xs.length = 33) : dv (sbL xs) = dv xs - (Lq : Int) := by
 unfold sbL
 rw [dv_zip _ _ (by rw [h]; rfl), dv_append, ordL_dv]
 simp [dv]
theorem dbL_getD {xs : List Int} (h : xs.length = 33) {k : Nat} : (dbL xs).getD k 0 = 2 * xs.getD k 0 := by
 unfold dbL
 simp only [List.getD_eq_getElem?_getD, List.getElem?_map]
 cases xs[k]? <;> simp
theorem sbL_getD {xs : List Int} (h : xs.length = 33) {k : Nat} (hk : k < 33) : (sbL xs).getD k 0 = xs.getD k 0 - (if k < 32 then ordL.getD k 0 else 0) := by
 unfold sbL
 rw [List.getD_eq_getElem?_getD, List.getElem?_zipWith, some_getD (by omega)]
 rcases Nat.lt_or_ge k 32 with h32 | h32
 ·rw [if_pos h32, List.getElem?_append_left (by simpa [ordL] using h32), some_getD (by simpa [ordL] using h32)]
  rfl
 ·obtain rfl : k = 32 := by omega
  rfl
theorem dbL_bd {xs : List Int} (h : xs.length = 33) (hb : Byt xs) (k : Nat) : -512 ≤ (dbL xs).getD k 0 ∧ (dbL xs).getD k 0 ≤ 512 := by
 rw [dbL_getD h]
 have := byt_getD hb k
 omega
theorem sbL_bd {xs : List Int} (h : xs.length = 33) (hb : Byt xs) (k : Nat) : -512 ≤ (sbL xs).getD k 0 ∧ (sbL xs).getD k 0 ≤ 512 := by
 rcases Nat.lt_or_ge k 33 with hk | hk
 ·rw [sbL_getD h hk]
  have := byt_getD hb k
  have := byt_getD ordL_byt k
  split <;> omega
 ·rw [List.getD_eq_getElem?_getD, List.getElem?_eq_none (by unfold sbL; rw [List.length_zipWith, h]; exact Nat.le_trans (Nat.min_le_left _ _) hk)]
  simp
theorem bval_bit (l : List UInt8) {q r : Nat} {c : UInt8} (hc : l[q]? = some c) (hr : r < 8) : c.toNat / 2 ^ r % 2 = bval l / 2 ^ (8 * q + r) % 2 := by
 have hq := (List.getElem?_eq_some_iff.1 hc).1
 have h1 : bval l = bval (l.take q) + 256 ^ q * (c.toNat + 256 * bval (l.drop (q + 1))) := by
  have e := bval_append (l.take q) (l.drop q)
  rw [List.take_append_drop, List.length_take, Nat.min_eq_left (by omega)] at e
  rw [e, List.drop_eq_getElem_cons hq]
  rw [List.getElem?_eq_getElem hq] at hc
  injection hc with hc
  rw [hc, bval]
 have h2 := bval_lt (l.take q)
 rw [List.length_take, Nat.min_eq_left (by omega)] at h2
 have hp : (2 : Nat) ^ (8 * q + r) = 256 ^ q * 2 ^ r := by rw [Nat.pow_add, Nat.pow_mul]
 rw [hp, ← Nat.div_div_eq_div_mul, h1, Nat.add_mul_div_left _ _ (Nat.pos_of_ne_zero (by omega)), Nat.div_eq_of_lt h2, Nat.zero_add]
 generalize bval (l.drop (q + 1)) = R
 generalize c.toNat = C
 match r, hr with
 | 0, _ => omega
 | 1, _ => omega
 | 2, _ => omega
 | 3, _ => omega
 | 4, _ => omega
 | 5, _ => omega
 | 6, _ => omega
 | 7, _ => omega
theorem redR_step (B i : Nat) (bit : Nat) (hbit : bit = B / 2 ^ i % 2) : (2 * (B / 2 ^ (i + 1) % Lq) + bit) % Lq = B / 2 ^ i % Lq := by
 have h1 : B / 2 ^ i = 2 * (B / 2 ^ (i + 1)) + bit := by
  rw [hbit, Nat.pow_succ, ← Nat.div_div_eq_div_mul]
  omega
 rw [h1, Nat.add_mod, Nat.mul_mod_mod, ← Nat.add_mod]
def RdI (l : List UInt8) (j : Nat) (xs : List Int) : Prop := xs.length = 33 ∧ Byt xs ∧ dv xs = ((bval l / 2 ^ j % Lq : Nat) : Int)
def RjRel (w : World) (l : List UInt8) (g3 g4 : Nat) (iv : Value) (wr : World) : Prop :=
 ∃ (j : Nat) (xs : List Int), j ≤ 8 * l.length ∧ iv = .int .i64 ((j : Int) - 1) ∧ RdI l j xs ∧ St w NoB wr [.cells g4 (ivs xs).toArray 186, .cells g3 ordA 184]
def RkRel (w : World) (c : Int) (ys xs : List Int) (g3 g4 : Nat) (cv kv : Value) (wr : World) : Prop :=
 ∃ k : Nat, k ≤ 33 ∧ kv = .int .i64 (k : Int) ∧ cv = .int .i64 (crS c ys k) ∧ St w NoB wr [.cells g4 (ivs (wkS c ys xs k)).toArray 186, .cells g3 ordA 184]
def RoRel (w : World) (xs : List Int) (g4 gb : Nat) (kv : Value) (wr : World) : Prop :=
 ∃ k : Nat, k ≤ 32 ∧ kv = .int .i64 (k : Int) ∧ St w NoB wr [.row (.slice (some ⟨gb, 0, none⟩) 32 32) 5 1 32 (bvs ((xs.take k).map (fun x : Int => UInt8.ofNat x.toNat) ++ List.replicate (32 - k) 0)), .cells g4 (ivs xs).toArray 186]
theorem enReduceR (args : Array Value) (w : World) : (callFunc 104 args).run Tryz.prog w = .ok (.enter 104 args) w := by kernel_rfl
theorem reduceR (A : Option Addr) (n c : Nat) (l : List UInt8) (w : World) (hl : l.length = n) (hn : n ≤ 64) (hr : Rd w (.slice A n c) 1 n (bvs l)) :
  Calls Tryz.prog 104 #[.slice A n c] w fun e w' => ∃ B d, e = .returned (.slice B 32 d) ∧ Below w.heap.size w w' ∧ w'.ownsRow w.heap.size 5 1 (.slice B 32 d) 32 (bvs (redL l)) := by
 have HR := hide hr
 have HL := hide hl
 have HN := hide hn
 have dn : decide (64 < (n : Int)) = false := by simp; omega
 have n64 : (n : Int) ≤ 64 := by omega
 have hz := zero32v
 have hz3 := zero33v
 have w8 : wrap64 (8 * (n : Int)) = 8 * (n : Int) := IntWalk.wrap64_in _ ⟨by omega, by omega⟩
 clear hr hl hn
 go_enter Tryz.func104, Tryz.ntmps104
 go_upto_region 3 with fail
 refine wp_region_list ?_
 refine wl_callN rfl rfl enOrdR rfl (order_r _) ?_
 rintro e w1 ⟨rfl, hb1⟩
 refine ⟨_, rfl, ?_⟩
 have HS1 := hide ((St.init w NoB).call hb1)
 refine wpList_plain rfl ?_
 intro K hK
 go_simp
 refine hK _ _ ?_
 clear hK K
 have HS2 := hide (HS1.out.alloc zer32 184)
 obtain ⟨g3, hg⟩ : ∃ g, g = w1.heap.size := ⟨_, rfl⟩
 rw [← hg] at HS2
 have HS3 := hide (show St w NoB _ [.cells g3 ordA 184] from HS2.out.setRow 0 rfl ordA)
 refine wpList_store_row rfl 184 (.tmp 3) (.tmp 15) rfl g3 ordA (by rw [hg]; rfl) rfl 184 _ (HS2.out.heap 0 rfl) (by rw [ordA_size]; kernel_rfl) (by rw [ordA_size]; unfold zer32; rfl) (by unfold ordA; kernel_rfl) ?_
 refine wpList_nil ?_
 have hgE : w1.heap.size = g3 := hg.symm
 simp only [hgE]
 generalize ((w1.alloc (.cells zer32 184)).setRow g3 ordA) = wq at HS3 ⊢
 clear hgE hg HS2 HS1 hb1 hz
 have HS4 := hide (HS3.out.alloc (ivs (List.replicate 33 0)).toArray 186)
 go_wp2_with fail
 obtain ⟨g4, hg⟩ : ∃ g, g = wq.heap.size := ⟨_, rfl⟩
 rw [← hg] at HS4 ⊢
 clear hg HS3 hz3
 have hI0 : RdI l (8 * n) (List.replicate 33 0) := by
  refine ⟨rfl, fun x hx => by have := (List.mem_replicate.1 hx).2; omega, ?_⟩
  have hb := bval_lt l
  rw [HL.out] at hb
  rw [Nat.div_eq_of_lt (by rw [Nat.pow_mul]; exact hb), Nat.zero_mod]
  decide
 have HI0 := hide hI0
 clear hI0
 go_loopw [5] (fun i wr => RjRel w l g3 g4 i wr) (fun i _ => (intOf i + 1).toNat)
 case atStart => exact ⟨8 * n, _, by rw [HL.out]; omega, by go_num, HI0.out, HS4.out⟩
 case round =>
  clear HS4 HI0 w8
  obtain ⟨j, xs, hj, rfl, hI, hS⟩ := hrel
  rw [HL.out] at hj
  have HS := hide hS
  have HI := hide hI
  clear hS hI
  cases j with
  | zero =>
   have d0 : decide ((0 : Int) ≤ -1) = false := by decide
   have hI := HI.out
   have hV : dv xs = ((bval l % Lq : Nat) : Int) := by rw [hI.2.2, Nat.pow_zero, Nat.div_one]
   have hV2 : 0 ≤ dv xs ∧ dv xs < (Lq : Int) := by
    rw [hV]
    have := Nat.mod_lt (bval l) (Lq_lt.2)
    omega
   have hx := dv_take (some_getD (xs := xs) (k := 32) (by rw [hI.1]; omega))
   have hb32 := dv_byt _ (byt_take hI.2.1 32)
   rw [List.length_take, hI.1] at hb32
   rw [List.take_of_length_le (by rw [hI.1]; omega)] at hx
   have hx32 := byt_getD hI.2.1 32
   have hT : dv (xs.take 32) = dv xs := by
    have h4 := Lq_pow.1
    rw [show min 32 33 = 32 from rfl] at hb32
    generalize xs.getD 32 0 = t at *
    generalize (256 : Int) ^ 32 = T at *
    rcases Int.lt_or_le 0 t with h0 | h0
    ·have : 1 * T ≤ t * T := Int.mul_le_mul_of_nonneg_right (by omega) (by omega)
     omega
    ·obtain rfl : t = 0 := by omega
     omega
   have hout : (xs.take 32).map (fun x : Int => UInt8.ofNat x.toNat) = redL l := by
    have h := byt_leB _ (byt_take hI.2.1 32)
    rw [List.length_take, hI.1, hT, hV] at h
    rw [h]
    unfold redL
    rfl
   have HOUT := hide hout
   clear hI hV hV2 hx hb32 hx32 hT hout hj
   go_upto_region 27 with (refine wl_makeB (n := 32) rfl rfl Tryz.underlying22 infoB HS.out rfl rfl (by decide) ?_; intro gb w6 hS6 hb6; have HS6 := hide hS6; clear hS6 hb6)
   have HS7 := hide (HS6.out.pickL [0, 1] (by decide) rfl : St w NoB w6 [.row (.slice (some ⟨gb, 0, none⟩) 32 32) 5 1 32 (bvs (List.replicate 32 0)), .cells g4 (ivs xs).toArray 186])
   clear HS6 HS
   go_wp2_with fail
   go_loopw [79] (fun k wr => RoRel w xs g4 gb k wr) (fun k _ => 32 - (intOf k).toNat)
   case atStart => exact ⟨0, by omega, rfl, HS7.out⟩
   case round =>
    clear HS7
    obtain ⟨k, hk, rfl, hS⟩ := hrel
    have HS := hide hS
    by_cases hlt : k < 32
    ·have d32 : decide ((k : Int) < 32) = true := by simp; omega
     have k32 : (k : Int) < 32 := by omega
     have k33 : (k : Int) < 33 := by omega
     have c0 : wr.cell? ⟨g4, k, none⟩ = some (.int .i64 (xs.getD k 0)) := by rw [hS.cell 1 rfl k]; exact ivs_get (some_getD (by rw [HI.out.1]; omega))
     have hne : gb ≠ g4 := fun e => hS.apart 0 1 _ _ g4 (by decide) rfl rfl (by rw [e]; rfl) rfl
     have hne2 : g4 ≠ gb := fun e => hne e.symm
     obtain ⟨g', c', hv, _, _, hcell, hfree, _⟩ := hS.rowOpen 0 rfl (by omega)
     injection hv with hv1 _ hv3
     injection hv1 with hv1
     injection hv1 with hv1
     subst hv1 hv3
     have hlen : ((xs.take k).map (fun x : Int => UInt8.ofNat x.toNat)).length = k := by rw [List.length_map, List.length_take, HI.out.1]; omega
     have ce := hcell k (.int .u8 ((0 : UInt8).toNat : Int)) (bvs_get (by rw [List.getElem?_append_right (by rw [hlen]; exact Nat.le_refl _), hlen, Nat.sub_self, List.getElem?_replicate, if_pos (by omega)]))
     have fe := hfree k
     have hxb := byt_getD HI.out.2.1 k
     obtain ⟨x, hx⟩ : ∃ x : Nat, (x : Int) = xs.getD k 0 := ⟨(xs.getD k 0).toNat, by omega⟩
     rw [← hx] at c0 hxb
     have x256 : (x : Int) < 256 := hxb.2
     have hT : ((xs.take k).map (fun x : Int => UInt8.ofNat x.toNat) ++ List.replicate (32 - k) 0).set k (UInt8.ofNat x) = (xs.take (k + 1)).map (fun x : Int => UInt8.ofNat x.toNat) ++ List.replicate (32 - (k + 1)) 0 := by
      rw [List.set_append_right _ _ (by rw [hlen]; exact Nat.le_refl _), hlen, Nat.sub_self, show 32 - k = (32 - (k + 1)) + 1 from by omega, List.replicate_succ, List.set_cons_zero, List.take_add_one, some_getD (by rw [HI.out.1]; omega), ← hx, Option.toList_some, List.map_append, List.append_assoc]
      rfl
     have hRow := hS.rowSet 0 rfl k (.int .u8 (x : Int)) (by omega)
     rw [List.set_cons_zero, bvs_set _ _ _ (by omega), hT] at hRow
     have HRow := hide hRow
     clear hcell hfree hlen hx hxb hT hRow hS
     go_wp2_with fail
     go_roundw
     case rel => exact ⟨k + 1, by omega, by go_num, HRow.out⟩
     case measure => (simp [intOf]) <;> omega
    ·obtain rfl : k = 32 := by omega
     rw [HOUT.out, Nat.sub_self, List.replicate_zero, List.append_nil] at hS
     have HS9 := hide hS
     clear hS HS
     go_wp2_with fail
     go_ret
     exact ⟨_, _, rfl, HS9.out.below, HS9.out.ownsRow 0 rfl⟩
  | succ i =>
   have hn := HN.out
   have HJ := hide hj
   have e1 : (((i + 1 : Nat) : Int) - 1) = (i : Int) := by omega
   simp only [e1]
   have di : decide ((0 : Int) ≤ (i : Int)) = true := by simp
   have i512 : (i : Int) < 512 := by omega
   obtain ⟨q, hq⟩ : ∃ q, q = i / 8 := ⟨_, rfl⟩
   obtain ⟨r, hr⟩ : ∃ r, r = i % 8 := ⟨_, rfl⟩
   have td : (i : Int).tdiv 8 = (q : Int) := by rw [Int.tdiv_eq_ediv_of_nonneg (by omega)]; omega
   have tm : (i : Int).tmod 8 = (r : Int) := by rw [Int.tmod_eq_emod_of_nonneg (by omega)]; omega
   have ed : (i : Int) / 8 = (q : Int) := by omega
   have em : (i : Int) % 8 = (r : Int) := by omega
   have qn : (q : Int) < (n : Int) := by omega
   have r8 : (r : Int) < 8 := by omega
   have hxb : l[q]? = some (l.getD q 0) := by rw [List.getD_eq_getElem?_getD, List.getElem?_eq_getElem (by rw [HL.out]; omega)]; rfl
   obtain ⟨b, o, rfl, hcb⟩ := rd_at' (HR.out.st HS.out) (bvs_get hxb)
   have hbit := bval_bit l hxb (show r < 8 by omega)
   obtain ⟨ch, hch⟩ : ∃ c : Nat, c = (l.getD q 0).toNat := ⟨_, rfl⟩
   have hc8 : ch < 256 := by rw [hch]; exact UInt8.toNat_lt _
   rw [← hch] at hcb hbit
   obtain ⟨bt, hbt⟩ : ∃ t, t = ch / 2 ^ r % 2 := ⟨_, rfl⟩
   obtain ⟨cs, hcs⟩ : ∃ t, t = ch / 2 ^ r := ⟨_, rfl⟩
   have s1 : (ch : Int) / 2 ^ r = (cs : Int) := by rw [hcs, Int.natCast_ediv, Int.natCast_pow]; rfl
   have cs8 : (cs : Int) < 256 := by have := Nat.div_le_self ch (2 ^ r); omega
   have s2 : bits .and .i64 (cs : Int) 1 = (bt : Int) := by rw [i64_and1, hbt, ← hcs]; omega
   have bt2 : bt < 2 := by omega
   have bti : (bt : Int) < 2 := by omega
   have hstep := redR_step (bval l) i bt (by rw [hbt, hbit]; congr 3; omega)
   have HST := hide hstep
   clear hq hr hxb hch hbit hbt hcs hstep hj hn e1
   go_wp2_with fail
   go_loopw [6, 35] (fun cv kv wr => RkRel w (bt : Int) (dbL xs) xs g3 g4 cv kv wr) (fun _ k _ => 33 - (intOf k).toNat)
   case atStart => exact ⟨0, by omega, rfl, rfl, HS.out⟩
   case round =>
    clear HS
    obtain ⟨k, hk, rfl, rfl, hS⟩ := hrel
    have HS := hide hS
    by_cases hlt : k < 33
    ·have d33 : decide ((k : Int) < 33) = true := by simp; omega
     have k33 : (k : Int) < 33 := by omega
     have c0 : wr.cell? ⟨g4, k, none⟩ = some (.int .i64 (xs.getD k 0)) := by rw [hS.cell 0 rfl k]; exact ivs_get (wkS_get _ _ xs HI.out.1 hlt)
     have f0 := hS.free 0 rfl k
     have hcb := crS_bd (bt : Int) (dbL xs) (by omega) (dbL_bd HI.out.1 HI.out.2.1) k
     have hxb := byt_getD HI.out.2.1 k
     have HT := hide (wkS_set (bt : Int) (dbL xs) xs HI.out.1 hlt)
     have hD : dgS (bt : Int) (dbL xs) k = (crS (bt : Int) (dbL xs) k + (dbL xs).getD k 0) % 256 := rfl
     have hE : crS (bt : Int) (dbL xs) (k + 1) = (crS (bt : Int) (dbL xs) k + (dbL xs).getD k 0) / 256 := rfl
     rw [dbL_getD HI.out.1] at hD hE
     obtain ⟨cc, hcc⟩ : ∃ x, x = crS (bt : Int) (dbL xs) k := ⟨_, rfl⟩
     obtain ⟨x, hx⟩ : ∃ y, y = xs.getD k 0 := ⟨_, rfl⟩
     obtain ⟨D, hDD⟩ : ∃ y, y = dgS (bt : Int) (dbL xs) k := ⟨_, rfl⟩
     obtain ⟨E, hEE⟩ : ∃ y, y = crS (bt : Int) (dbL xs) (k + 1) := ⟨_, rfl⟩
     rw [← hcc] at hD hE hcb
     rw [← hx] at hD hE hxb c0
     rw [← hDD] at hD HT
     rw [← hEE] at hE
     simp only [← hcc]
     have HEE := hide hEE
     have a1 : bits .and .i64 (cc + 2 * x) 255 = D := by rw [i64_and255]; exact hD.symm
     have a2 : (cc + 2 * x) / 256 = E := hE.symm
     obtain ⟨b0, b1⟩ := hcb
     obtain ⟨b2, b3⟩ := hxb
     clear hD hE hcc hx hDD hEE hS
     go_wp2_with fail
     go_roundw
     case rel =>
      have h3 := HS.out.setCell 0 rfl k (.int .i64 D)
      rw [List.set_cons_zero, ivs_set, HT.out] at h3
      exact ⟨k + 1, by omega, by go_num, by rw [HEE.out], h3⟩
     case measure => (simp [intOf]) <;> omega
    ·obtain rfl : k = 33 := by omega
     have hI := HI.out
     rw [wkS_all _ _ xs hI.1] at hS
     have hV : 0 ≤ (bt : Int) + dv (dbL xs) ∧ (bt : Int) + dv (dbL xs) < 256 ^ 33 ∧ dv (dbL xs) = 2 * dv xs ∧ dv xs < (Lq : Int) := by
      have h1 := dbL_dv xs
      have h2 := dv_byt _ hI.2.1
      have h3 : dv xs < (Lq : Int) := by
       rw [hI.2.2]
       have := Nat.mod_lt (bval l / 2 ^ (i + 1)) (Lq_lt.2)
       omega
      have h4 := Lq_pow.1
      have h5 : (256 : Int) ^ 33 = 256 ^ 32 * 256 := Int.pow_succ _ _
      omega
     have hdv := dgL_all (bt : Int) (dbL xs) (by unfold dbL; rw [List.length_map]; exact hI.1) hV.1 hV.2.1
     rw [hV.2.2.1] at hdv
     obtain ⟨ds, hds⟩ : ∃ d, d = dgL (bt : Int) (dbL xs) 33 := ⟨_, rfl⟩
     have hdl : ds.length = 33 := by rw [hds]; exact dgL_len _ _ _
     have hdb : Byt ds := by rw [hds]; exact dgL_byt _ _ _
     rw [← hds] at hS hdv
     have HB := hide (fun W => below_r ds W hdl hdb)
     have HDL := hide hdl
     have HDB := hide hdb
     have HDV := hide hdv
     have HVV := hide hV.2.2.2
     obtain ⟨da, hda⟩ : ∃ a, a = (ivs ds).toArray := ⟨_, rfl⟩
     have hsz : da.size = 33 := by rw [hda, List.size_toArray, ivs_len, hdl]
     have HS1 := hide hS
     rw [← hda] at HB
     have HS2 := hide (show St w NoB wr [.cells g4 da 186, .cells g3 ordA 184] by rw [hda]; exact hS)
     obtain ⟨bb, hbb⟩ : ∃ b, b = decide (dv ds < (Lq : Int)) := ⟨_, rfl⟩
     rw [← hbb] at HB
     have HBB := hide hbb
     clear hS hI hV hdv hds hdl hdb hda HS hbb
     go_upto_region 15 with fail
     refine wp_region_list ?_
     refine wpList_load_row rfl 186 (.tmp 4) rfl g4 rfl 186 da _ _ (HS2.out.heap 0 rfl) Tryz.underlying186 rfl (by rw [hsz]; kernel_rfl) ?_
     refine wl_callN rfl rfl enBelowR rfl (HB.out _) ?_
     rintro e w5 ⟨rfl, hb5⟩
     refine ⟨_, rfl, ?_⟩
     have HS := hide (HS1.out.call hb5)
     clear HS1 HS2 HB hb5
     cases bb with
     | true =>
      have hlt := of_decide_eq_true HBB.out.symm
      have HR2 := hide (show RdI l i ds from ⟨HDL.out, HDB.out, by
       have h := HDV.out
       have h2 := HI.out.2.2
       rw [← HST.out]
       generalize bval l / 2 ^ (i + 1) % Lq = V at *
       rw [h2] at h
       rw [h] at hlt ⊢
       rw [Nat.mod_eq_of_lt (by omega)]
       omega⟩)
      clear hlt HBB
      go_wp2_with fail
      go_roundw
      case rel => exact ⟨i, ds, by (have := HJ.out); (rw [HL.out]); omega, by go_num, HR2.out, HS.out⟩
      case measure => (simp [intOf]) <;> omega
     | false =>
      have hge := of_decide_eq_false HBB.out.symm
      have HGE := hide hge
      clear hge HBB
      go_wp2_with fail
      go_loopw [8, 54] (fun cv kv wr => RkRel w 0 (sbL ds) ds g3 g4 cv kv wr) (fun _ k _ => 33 - (intOf k).toNat)
      case atStart => exact ⟨0, by omega, rfl, rfl, HS.out⟩
      case round =>
       clear HS
       obtain ⟨k, hk, rfl, rfl, hS⟩ := hrel
       have HS := hide hS
       by_cases hlt : k < 33
       ·have d33 : decide ((k : Int) < 33) = true := by simp; omega
        have k33 : (k : Int) < 33 := by omega
        have c0 : wr.cell? ⟨g4, k, none⟩ = some (.int .i64 (ds.getD k 0)) := by rw [hS.cell 0 rfl k]; exact ivs_get (wkS_get _ _ ds HDL.out hlt)
        have f0 := hS.free 0 rfl k
        have hcb := crS_bd 0 (sbL ds) (by omega) (sbL_bd HDL.out HDB.out) k
        have hxb := byt_getD HDB.out k
        have HT := hide (wkS_set 0 (sbL ds) ds HDL.out hlt)
        have hD : dgS 0 (sbL ds) k = (crS 0 (sbL ds) k + (sbL ds).getD k 0) % 256 := rfl
        have hE : crS 0 (sbL ds) (k + 1) = (crS 0 (sbL ds) k + (sbL ds).getD k 0) / 256 := rfl
        rw [sbL_getD HDL.out hlt] at hD hE
        have hob := byt_getD ordL_byt k
        obtain ⟨cc, hcc⟩ : ∃ x, x = crS 0 (sbL ds) k := ⟨_, rfl⟩
        obtain ⟨x, hx⟩ : ∃ y, y = ds.getD k 0 := ⟨_, rfl⟩
        obtain ⟨D, hDD⟩ : ∃ y, y = dgS 0 (sbL ds) k := ⟨_, rfl⟩
        obtain ⟨E, hEE⟩ : ∃ y, y = crS 0 (sbL ds) (k + 1) := ⟨_, rfl⟩
        rw [← hcc] at hD hE hcb
        rw [← hx] at hD hE hxb c0
        rw [← hDD] at hD HT
        rw [← hEE] at hE
        simp only [← hcc]
        have HEE := hide hEE
        obtain ⟨b0, b1⟩ := hcb
        obtain ⟨b2, b3⟩ := hxb
        by_cases h32 : k < 32
        ·have d32 : decide ((k : Int) < 32) = true := by simp; omega
         have k32 : (k : Int) < 32 := by omega
         have c1 : wr.cell? ⟨g3, k, none⟩ = some (.int .i64 (ordL.getD k 0)) := by rw [hS.cell 1 rfl k]; exact ordA_get h32
         rw [if_pos h32] at hD hE
         obtain ⟨y, hy⟩ : ∃ y, y = ordL.getD k 0 := ⟨_, rfl⟩
         rw [← hy] at hD hE hob c1
         obtain ⟨b4, b5⟩ := hob
         have a1 : bits .and .i64 (cc + x - y) 255 = D := by rw [i64_and255, hD]; congr 1; omega
         have a2 : (cc + x - y) / 256 = E := by rw [hE]; congr 1; omega
         clear hD hE hcc hx hDD hEE hS hy
         go_wp2_with fail
         go_roundw
         case rel =>
          have h3 := HS.out.setCell 0 rfl k (.int .i64 D)
          rw [List.set_cons_zero, ivs_set, HT.out] at h3
          exact ⟨k + 1, by omega, by go_num, by rw [HEE.out], h3⟩
         case measure => (simp [intOf]) <;> omega
        ·obtain rfl : k = 32 := by omega
         rw [if_neg h32, Int.sub_zero] at hD hE
         have a1 : bits .and .i64 (cc + x) 255 = D := by rw [i64_and255, hD]
         have a2 : (cc + x) / 256 = E := hE.symm
         clear hD hE hcc hx hDD hEE hS hob h32
         go_wp2_with fail
         go_roundw
         case rel =>
          have h3 := HS.out.setCell 0 rfl 32 (.int .i64 D)
          rw [List.set_cons_zero, ivs_set, HT.out] at h3
          exact ⟨33, by omega, rfl, by rw [HEE.out], h3⟩
         case measure => (simp [intOf]) <;> omega
       ·obtain rfl : k = 33 := by omega
        rw [wkS_all _ _ ds HDL.out] at hS
        have hsv := sbL_dv HDL.out
        have hge := HGE.out
        have hdv := HDV.out
        have hvv := HVV.out
        have hlp := Lq_pow
        have h2 := dgL_all 0 (sbL ds) (by unfold sbL; rw [List.length_zipWith, HDL.out]; rfl) (by rw [hsv]; omega) (by
         rw [hsv]
         have h5 : (256 : Int) ^ 33 = 256 ^ 32 * 256 := Int.pow_succ _ _
         omega)
        have HR2 := hide (show RdI l i (dgL 0 (sbL ds) 33) from ⟨dgL_len _ _ _, dgL_byt _ _ _, by
         rw [h2, hsv, hdv, HI.out.2.2, ← HST.out]
         rw [HI.out.2.2] at hdv hvv
         rw [hdv] at hge
         generalize bval l / 2 ^ (i + 1) % Lq = V at *
         have e : 2 * V + bt = (2 * V + bt - Lq) + Lq := by omega
         rw [e, Nat.add_mod_right, Nat.mod_eq_of_lt (by omega)]
         omega⟩)
        have HS9 := hide hS
        clear hS HS hsv hge hdv hvv hlp h2
        go_wp2_with fail
        go_roundw
        case rel => exact ⟨i, _, by (have := HJ.out); (rw [HL.out]); omega, by go_num, HR2.out, HS9.out⟩
        case measure => (simp [intOf]) <;> omega
end Go.Proofs.YtnohmgpmmhlloaaGreatDoor.S3
