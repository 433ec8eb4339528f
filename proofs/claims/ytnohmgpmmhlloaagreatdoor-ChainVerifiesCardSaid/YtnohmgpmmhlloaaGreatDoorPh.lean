/-
 Joined of texts of mine, in build order: Ar, At, Au, Oi, Av, Oj, Ok, Vr, Pw7, Pw8, Pw9, Pw10, Vf, Pl. Each says what it proves at its own head.
-/
import Derived.Deep.DeepCutAuto
import Derived.Maps.OwnOps
import Derived.Test.YtnohmgpmmhlloaaGreatDoorPg
set_option linter.unusedSimpArgs false
set_option linter.unusedVariables false
set_option maxRecDepth 100000
set_option maxHeartbeats 25600000

namespace Go.Proofs.YtnohmgpmmhlloaaGreatDoor
open Go.RowKit
set_option linter.unusedSimpArgs false
structure Rz where
 c : Nat
 p : Tp
def TkQ (w : World) (r : Rz) (e : Ending) (w' : World) : Prop := ∃ (t : Tk) (G : List Chunk), e = .returned (.tuple #[t.val, .int .i64 (r.c : Int)]) ∧ t.p = r.p ∧ TkIn G t ∧ St w NoB w' G
theorem tkQ_ok {w : World} {p : Tp} {e : Ending} {w' : World} (h : TkG w p e w') : TkQ w ⟨0, p⟩ e w' := by
 obtain ⟨t, G, h1, h2, h3, h4⟩ := h
 exact ⟨t, G, h1, h2, h3, h4⟩
theorem tk0_in (H : List Chunk) : TkIn (pc0.ch :: .row (.slice none 0 0) 32 5 0 [] :: H) tk0 := ⟨List.mem_cons_self .., List.mem_cons_of_mem _ (List.mem_cons_self ..), (fun y hy => absurd hy List.not_mem_nil), List.mem_cons_self .., List.mem_cons_self ..⟩
theorem tkQ_no {w : World} {c : Nat} {e : Ending} {w' : World} (h : TkE w (c : Int) e w') : TkQ w ⟨c, tp0⟩ e w' := by
 obtain ⟨h1, h2⟩ := h
 exact ⟨tk0, _, h1, tk0_p, tk0_in [], (((St.init w NoB).call h2).row (Below.refl _ _) (World.ownsRow_nil _ _ _ _)).row (Below.refl _ _) (World.ownsRow_nil _ _ _ _)⟩
noncomputable def addRz (t : Tp) (nx : List UInt8) (x : Sp) : Rz :=
 if nx.length ≠ 32 then ⟨1, tp0⟩ else if 65536 < x.b.length then ⟨1, tp0⟩ else if t.l.length = 0 then ⟨1, tp0⟩ else if t.e.length ≠ 32 then ⟨13, tp0⟩ else if 8 ≤ t.l.length then ⟨4, tp0⟩ else ⟨0, addK t nx x⟩
theorem added_any (A1 A2 A3 A Ax E1 E2 E3 E4 E5 : Option Addr) (m1 m2 m3 n q n1 n2 n3 n4 n5 c1 c2 c3 c cx f1 f2 f3 f4 f5 : Nat) (l1 l2 l3 nx : List UInt8) (l : List Sg) (y1 y2 y3 y4 y5 : List UInt8) (w : World) (hl1 : l1.length = m1) (hl2 : l2.length = m2) (hl3 : l3.length = m3) (hl : l.length = n) (hx : nx.length = q) (hg1 : y1.length = n1) (hg2 : y2.length = n2) (hg3 : y3.length = n3) (hg4 : y4.length = n4) (hg5 : y5.length = n5) (hn2 : n2 ≤ 10000) (hn3 : n3 ≤ 10000) (hn4 : n4 ≤ 10000) (hn5 : n5 ≤ 10000) (hm1 : m1 ≤ 1000000) (hm3 : m3 ≤ 1000000) (hs : ∀ x ∈ l, x.p.sm)
  (hr1 : Rd w (.slice A1 m1 c1) 1 m1 (bvs l1)) (hr2 : Rd w (.slice A2 m2 c2) 1 m2 (bvs l2)) (hr3 : Rd w (.slice A3 m3 c3) 1 m3 (bvs l3)) (hr : Rd w (.slice A n c) 5 n (sgCells l)) (hok : ∀ x ∈ l, SgOK w x) (hrx : Rd w (.slice Ax q cx) 1 q (bvs nx)) (he1 : Rd w (.slice E1 n1 f1) 1 n1 (bvs y1)) (he2 : Rd w (.slice E2 n2 f2) 1 n2 (bvs y2)) (he3 : Rd w (.slice E3 n3 f3) 1 n3 (bvs y3)) (he4 : Rd w (.slice E4 n4 f4) 1 n4 (bvs y4)) (he5 : Rd w (.slice E5 n5 f5) 1 n5 (bvs y5)) :
  Calls Tryz.prog 51 #[.agg #[.slice A1 m1 c1, .slice A n c, .slice A2 m2 c2, .slice A3 m3 c3], .slice Ax q cx, .agg #[.slice E1 n1 f1, .slice E2 n2 f2, .slice E3 n3 f3, .slice E4 n4 f4, .slice E5 n5 f5]] w (TkQ w (addRz ⟨l1, l.map Sg.p, l2, l3⟩ nx ⟨y1, y2, y3, y4, y5⟩)) := by
 unfold addRz
 show Calls _ _ _ _ (TkQ w (if nx.length ≠ 32 then _ else if 65536 < y1.length then _ else if (l.map Sg.p).length = 0 then _ else if l2.length ≠ 32 then _ else if 8 ≤ (l.map Sg.p).length then _ else _))
 rw [List.length_map]
 by_cases h1 : nx.length ≠ 32
 ·rw [if_pos h1]
  exact (added_bad1 _ _ _ _ _ _ _ _ _ _ _ _ _ _ _ _ _ _ _ _ _ _ _ _ _ _ _ _ _ _ _ (by omega)).mono fun _ _ h => tkQ_no h
 rw [if_neg h1]
 obtain rfl : q = 32 := by omega
 by_cases h2 : 65536 < y1.length
 ·rw [if_pos h2]
  exact (added_bad2 _ _ _ _ _ _ _ _ _ _ _ _ _ _ _ _ _ _ _ _ _ _ _ _ _ _ _ _ _ _ (by omega)).mono fun _ _ h => tkQ_no h
 rw [if_neg h2]
 by_cases h3 : l.length = 0
 ·rw [if_pos h3]
  obtain rfl : n = 0 := by omega
  exact (added_bad3 _ _ _ _ _ _ _ _ _ _ _ _ _ _ _ _ _ _ _ _ _ _ _ _ _ _ _ _ _ (by omega)).mono fun _ _ h => tkQ_no h
 rw [if_neg h3]
 by_cases h4 : l2.length ≠ 32
 ·rw [if_pos h4]
  exact (added_bad4 _ _ _ _ _ _ _ _ _ _ _ _ _ _ _ _ _ _ _ _ _ _ _ _ _ _ _ _ _ _ (by omega) (by omega) (by omega)).mono fun _ _ h => tkQ_no h
 rw [if_neg h4]
 obtain rfl : m2 = 32 := by omega
 by_cases h5 : 8 ≤ l.length
 ·rw [if_pos h5]
  exact (added_bad5 _ _ _ _ _ _ _ _ _ _ _ _ _ _ _ _ _ _ _ _ _ _ _ _ _ _ _ _ _ (by omega) (by omega)).mono fun _ _ h => tkQ_no h
 rw [if_neg h5]
 exact (added_ok _ _ _ _ _ _ _ _ _ _ _ _ _ _ _ _ _ _ _ _ _ _ _ _ _ _ _ _ _ _ _ _ _ _ _ _ _ _ _ hl1 hl2 hl3 hl (by omega) (by omega) hx hg1 hg2 hg3 hg4 hg5 (by omega) hn2 hn3 hn4 hn5 hm1 hm3 hs hr1 hr2 hr3 hr hok hrx he1 he2 he3 he4 he5).mono fun _ _ h => tkQ_ok h
theorem append_any (A1 A2 A3 A Ax E1 : Option Addr) (m1 m2 m3 n q n1 c1 c2 c3 c cx f1 : Nat) (l1 l2 l3 nx : List UInt8) (l : List Sg) (y1 : List UInt8) (w : World) (hl1 : l1.length = m1) (hl2 : l2.length = m2) (hl3 : l3.length = m3) (hl : l.length = n) (hx : nx.length = q) (hg1 : y1.length = n1) (hm1 : m1 ≤ 1000000) (hm3 : m3 ≤ 1000000) (hs : ∀ x ∈ l, x.p.sm)
  (hr1 : Rd w (.slice A1 m1 c1) 1 m1 (bvs l1)) (hr2 : Rd w (.slice A2 m2 c2) 1 m2 (bvs l2)) (hr3 : Rd w (.slice A3 m3 c3) 1 m3 (bvs l3)) (hr : Rd w (.slice A n c) 5 n (sgCells l)) (hok : ∀ x ∈ l, SgOK w x) (hrx : Rd w (.slice Ax q cx) 1 q (bvs nx)) (he1 : Rd w (.slice E1 n1 f1) 1 n1 (bvs y1)) :
  Calls Tryz.prog 21 #[.agg #[.slice A1 m1 c1, .slice A n c, .slice A2 m2 c2, .slice A3 m3 c3], .slice Ax q cx, .slice E1 n1 f1] w (TkQ w (addRz ⟨l1, l.map Sg.p, l2, l3⟩ nx ⟨y1, [], [], [], []⟩)) := by
 have hS0 := ((St.init w NoB).alloc #[.slice A1 m1 c1, .slice A n c, .slice A2 m2 c2, .slice A3 m3 c3] 26).alloc #[.slice none 0 0, .slice none 0 0, .slice none 0 0, .slice none 0 0] 26
 rw [size_alloc1] at hS0
 have HS := hide hS0
 clear hS0
 have HL1 := hide hl1
 have HL2 := hide hl2
 have HL3 := hide hl3
 have HL := hide hl
 have HX := hide hx
 have HG1 := hide hg1
 have HSS := hide hs
 have HR1 := hide hr1
 have HR2 := hide hr2
 have HR3 := hide hr3
 have HR := hide hr
 have HOK := hide hok
 have HRX := hide hrx
 have HE1 := hide he1
 clear hl1 hl2 hl3 hl hx hg1 hs hr1 hr2 hr3 hr hok hrx he1
 have t0 : _ = some (Value.slice A1 m1 c1) := HS.out.cell 1 rfl 0
 have t1 : _ = some (Value.slice A n c) := HS.out.cell 1 rfl 1
 have t2 : _ = some (Value.slice A2 m2 c2) := HS.out.cell 1 rfl 2
 have t3 : _ = some (Value.slice A3 m3 c3) := HS.out.cell 1 rfl 3
 go_enter Tryz.func21, Tryz.ntmps21
 have M0 := True.intro
 go_wp2_with (first
  | (go_at_call 51; (with_reducible refine (added_any _ _ _ _ _ _ _ _ _ _ _ _ _ _ _ _ _ _ _ _ _ _ _ _ _ _ _ _ _ _ _ _ _ _ _ _ _ _ _ _ _ HL1.out HL2.out HL3.out HL.out HX.out HG1.out (rfl : ([] : List UInt8).length = 0) (rfl : ([] : List UInt8).length = 0) (rfl : ([] : List UInt8).length = 0) (rfl : ([] : List UInt8).length = 0) (by omega) (by omega) (by omega) (by omega) hm1 hm3 HSS.out (HR1.out.below HS.out.below) (HR2.out.below HS.out.below) (HR3.out.below HS.out.below) (HR.out.below HS.out.below) (fun x hx => (HOK.out x hx).on HS.out.below) (HRX.out.below HS.out.below) (HE1.out.below HS.out.below) (rd_nil _ 1) (rd_nil _ 1) (rd_nil _ 1) (rd_nil _ 1)).mono ?_); rintro e w6 ⟨⟨⟨B1, d1, k1⟩, X, x, zs, ⟨B2, d2, k2⟩, ⟨B3, d3, k3⟩⟩, G, rfl, hp, hG, hSz⟩; rw [Tk.val_eq]; have HS := hide (St.rot _ _ (HS.out.join hSz)); have HP := hide hp; have HG := hide hG; clear hp hG hSz; have M1 := True.intro)
  | (refine wl_storeC rfl rfl HS.out 0 rfl (vs := [.slice B1 k1.length d1, .slice X zs.length x, .slice B2 k2.length d2, .slice B3 k3.length d3]) szToken (Nat.le_refl _) rfl rfl one4 ?_; intro w7 hS7; have HS7 := hide hS7; clear hS7))
 refine bodyPost_ret (results_cell_tmp_row rfl _ _ (w.heap.size + 1) _ _ _ _ rfl (HS7.out.heap 0 rfl) Tryz.underlying26 rfl (by kernel_rfl)) rfl ?_
 exact ⟨_, _, rfl, HP.out, HG.out, HS7.out.tail.tail⟩
end Go.Proofs.YtnohmgpmmhlloaaGreatDoor

namespace Go.Proofs.YtnohmgpmmhlloaaGreatDoor
open Go.RowKit
set_option linter.unusedSimpArgs false
noncomputable def avRz (t : Tp) (nx b k v : List UInt8) : Rz := if k.length ≠ 32 then ⟨1, tp0⟩ else if v.length ≠ 64 then ⟨1, tp0⟩ else addRz t nx ⟨b, [], [], k, v⟩
theorem av_bad1 (A1 A2 A3 A Ax E1 E4 E5 : Option Addr) (m1 m2 m3 n q n1 n4 n5 c1 c2 c3 c cx f1 f4 f5 : Nat) (w : World) (hne : n4 ≠ 32) : Calls Tryz.prog 17 #[.agg #[.slice A1 m1 c1, .slice A n c, .slice A2 m2 c2, .slice A3 m3 c3], .slice Ax q cx, .slice E1 n1 f1, .slice E4 n4 f4, .slice E5 n5 f5] w (TkE w 1) := by
 have hS0 := ((St.init w NoB).alloc #[.slice A1 m1 c1, .slice A n c, .slice A2 m2 c2, .slice A3 m3 c3] 26).alloc #[.slice none 0 0, .slice none 0 0, .slice none 0 0, .slice none 0 0] 26
 rw [size_alloc1] at hS0
 have HS := hide hS0
 clear hS0
 have q0 : ((n4 : Int) != 32) = true := by simp; omega
 go_enter Tryz.func17, Tryz.ntmps17
 go_wp2_with (refine wl_storeC rfl rfl HS.out 0 rfl (vs := [.slice none 0 0, .slice none 0 0, .slice none 0 0, .slice none 0 0]) szToken (Nat.le_refl _) rfl rfl one4 ?_; intro w7 hS7; have HS7 := hide hS7; clear hS7)
 refine bodyPost_ret (results_cell_tmp_row rfl _ _ (w.heap.size + 1) _ _ _ _ rfl (HS7.out.heap 0 rfl) Tryz.underlying26 rfl (by kernel_rfl)) rfl ?_
 exact ⟨rfl, HS7.out.below⟩
theorem av_bad2 (A1 A2 A3 A Ax E1 E4 E5 : Option Addr) (m1 m2 m3 n q n1 n5 c1 c2 c3 c cx f1 f4 f5 : Nat) (w : World) (hne : n5 ≠ 64) : Calls Tryz.prog 17 #[.agg #[.slice A1 m1 c1, .slice A n c, .slice A2 m2 c2, .slice A3 m3 c3], .slice Ax q cx, .slice E1 n1 f1, .slice E4 32 f4, .slice E5 n5 f5] w (TkE w 1) := by
 have hS0 := ((St.init w NoB).alloc #[.slice A1 m1 c1, .slice A n c, .slice A2 m2 c2, .slice A3 m3 c3] 26).alloc #[.slice none 0 0, .slice none 0 0, .slice none 0 0, .slice none 0 0] 26
 rw [size_alloc1] at hS0
 have HS := hide hS0
 clear hS0
 have q0 : ((n5 : Int) != 64) = true := by simp; omega
 go_enter Tryz.func17, Tryz.ntmps17
 go_wp2_with (refine wl_storeC rfl rfl HS.out 0 rfl (vs := [.slice none 0 0, .slice none 0 0, .slice none 0 0, .slice none 0 0]) szToken (Nat.le_refl _) rfl rfl one4 ?_; intro w7 hS7; have HS7 := hide hS7; clear hS7)
 refine bodyPost_ret (results_cell_tmp_row rfl _ _ (w.heap.size + 1) _ _ _ _ rfl (HS7.out.heap 0 rfl) Tryz.underlying26 rfl (by kernel_rfl)) rfl ?_
 exact ⟨rfl, HS7.out.below⟩
theorem av_ok (A1 A2 A3 A Ax E1 E4 E5 : Option Addr) (m1 m2 m3 n q n1 c1 c2 c3 c cx f1 f4 f5 : Nat) (l1 l2 l3 nx : List UInt8) (l : List Sg) (y1 y4 y5 : List UInt8) (w : World) (hl1 : l1.length = m1) (hl2 : l2.length = m2) (hl3 : l3.length = m3) (hl : l.length = n) (hx : nx.length = q) (hg1 : y1.length = n1) (hg4 : y4.length = 32) (hg5 : y5.length = 64) (hm1 : m1 ≤ 1000000) (hm3 : m3 ≤ 1000000) (hs : ∀ x ∈ l, x.p.sm)
  (hr1 : Rd w (.slice A1 m1 c1) 1 m1 (bvs l1)) (hr2 : Rd w (.slice A2 m2 c2) 1 m2 (bvs l2)) (hr3 : Rd w (.slice A3 m3 c3) 1 m3 (bvs l3)) (hr : Rd w (.slice A n c) 5 n (sgCells l)) (hok : ∀ x ∈ l, SgOK w x) (hrx : Rd w (.slice Ax q cx) 1 q (bvs nx)) (he1 : Rd w (.slice E1 n1 f1) 1 n1 (bvs y1)) (he4 : Rd w (.slice E4 32 f4) 1 32 (bvs y4)) (he5 : Rd w (.slice E5 64 f5) 1 64 (bvs y5)) :
  Calls Tryz.prog 17 #[.agg #[.slice A1 m1 c1, .slice A n c, .slice A2 m2 c2, .slice A3 m3 c3], .slice Ax q cx, .slice E1 n1 f1, .slice E4 32 f4, .slice E5 64 f5] w (TkQ w (addRz ⟨l1, l.map Sg.p, l2, l3⟩ nx ⟨y1, [], [], y4, y5⟩)) := by
 have hS0 := ((St.init w NoB).alloc #[.slice A1 m1 c1, .slice A n c, .slice A2 m2 c2, .slice A3 m3 c3] 26).alloc #[.slice none 0 0, .slice none 0 0, .slice none 0 0, .slice none 0 0] 26
 rw [size_alloc1] at hS0
 have HS := hide hS0
 clear hS0
 have HL1 := hide hl1
 have HL2 := hide hl2
 have HL3 := hide hl3
 have HL := hide hl
 have HX := hide hx
 have HG1 := hide hg1
 have HG4 := hide hg4
 have HG5 := hide hg5
 have HSS := hide hs
 have HR1 := hide hr1
 have HR2 := hide hr2
 have HR3 := hide hr3
 have HR := hide hr
 have HOK := hide hok
 have HRX := hide hrx
 have HE1 := hide he1
 have HE4 := hide he4
 have HE5 := hide he5
 clear hl1 hl2 hl3 hl hx hg1 hg4 hg5 hs hr1 hr2 hr3 hr hok hrx he1 he4 he5
 have t0 : _ = some (Value.slice A1 m1 c1) := HS.out.cell 1 rfl 0
 have t1 : _ = some (Value.slice A n c) := HS.out.cell 1 rfl 1
 have t2 : _ = some (Value.slice A2 m2 c2) := HS.out.cell 1 rfl 2
 have t3 : _ = some (Value.slice A3 m3 c3) := HS.out.cell 1 rfl 3
 go_enter Tryz.func17, Tryz.ntmps17
 have M0 := True.intro
 go_wp2_with (first
  | (go_at_call 51; (with_reducible refine (added_any _ _ _ _ _ _ _ _ _ _ _ _ _ _ _ _ _ _ _ _ _ _ _ _ _ _ _ _ _ _ _ _ _ _ _ _ _ _ _ _ _ HL1.out HL2.out HL3.out HL.out HX.out HG1.out (rfl : ([] : List UInt8).length = 0) (rfl : ([] : List UInt8).length = 0) HG4.out HG5.out (by omega) (by omega) (by omega) (by omega) hm1 hm3 HSS.out (HR1.out.below HS.out.below) (HR2.out.below HS.out.below) (HR3.out.below HS.out.below) (HR.out.below HS.out.below) (fun x hx => (HOK.out x hx).on HS.out.below) (HRX.out.below HS.out.below) (HE1.out.below HS.out.below) (rd_nil _ 1) (rd_nil _ 1) (HE4.out.below HS.out.below) (HE5.out.below HS.out.below)).mono ?_); rintro e w6 ⟨⟨⟨B1, d1, k1⟩, X, x, zs, ⟨B2, d2, k2⟩, ⟨B3, d3, k3⟩⟩, G, rfl, hp, hG, hSz⟩; rw [Tk.val_eq]; have HS := hide (St.rot _ _ (HS.out.join hSz)); have HP := hide hp; have HG := hide hG; clear hp hG hSz; have M1 := True.intro)
  | (refine wl_storeC rfl rfl HS.out 0 rfl (vs := [.slice B1 k1.length d1, .slice X zs.length x, .slice B2 k2.length d2, .slice B3 k3.length d3]) szToken (Nat.le_refl _) rfl rfl one4 ?_; intro w7 hS7; have HS7 := hide hS7; clear hS7))
 refine bodyPost_ret (results_cell_tmp_row rfl _ _ (w.heap.size + 1) _ _ _ _ rfl (HS7.out.heap 0 rfl) Tryz.underlying26 rfl (by kernel_rfl)) rfl ?_
 exact ⟨_, _, rfl, HP.out, HG.out, HS7.out.tail.tail⟩
theorem av_any (A1 A2 A3 A Ax E1 E4 E5 : Option Addr) (m1 m2 m3 n q n1 n4 n5 c1 c2 c3 c cx f1 f4 f5 : Nat) (l1 l2 l3 nx : List UInt8) (l : List Sg) (y1 y4 y5 : List UInt8) (w : World) (hl1 : l1.length = m1) (hl2 : l2.length = m2) (hl3 : l3.length = m3) (hl : l.length = n) (hx : nx.length = q) (hg1 : y1.length = n1) (hg4 : y4.length = n4) (hg5 : y5.length = n5) (hm1 : m1 ≤ 1000000) (hm3 : m3 ≤ 1000000) (hs : ∀ x ∈ l, x.p.sm)
  (hr1 : Rd w (.slice A1 m1 c1) 1 m1 (bvs l1)) (hr2 : Rd w (.slice A2 m2 c2) 1 m2 (bvs l2)) (hr3 : Rd w (.slice A3 m3 c3) 1 m3 (bvs l3)) (hr : Rd w (.slice A n c) 5 n (sgCells l)) (hok : ∀ x ∈ l, SgOK w x) (hrx : Rd w (.slice Ax q cx) 1 q (bvs nx)) (he1 : Rd w (.slice E1 n1 f1) 1 n1 (bvs y1)) (he4 : Rd w (.slice E4 n4 f4) 1 n4 (bvs y4)) (he5 : Rd w (.slice E5 n5 f5) 1 n5 (bvs y5)) :
  Calls Tryz.prog 17 #[.agg #[.slice A1 m1 c1, .slice A n c, .slice A2 m2 c2, .slice A3 m3 c3], .slice Ax q cx, .slice E1 n1 f1, .slice E4 n4 f4, .slice E5 n5 f5] w (TkQ w (avRz ⟨l1, l.map Sg.p, l2, l3⟩ nx y1 y4 y5)) := by
 unfold avRz
 by_cases h1 : y4.length ≠ 32
 ·rw [if_pos h1]
  exact (av_bad1 _ _ _ _ _ _ _ _ _ _ _ _ _ _ _ _ _ _ _ _ _ _ _ _ _ (by omega)).mono fun _ _ h => tkQ_no h
 rw [if_neg h1]
 obtain rfl : n4 = 32 := by omega
 by_cases h2 : y5.length ≠ 64
 ·rw [if_pos h2]
  exact (av_bad2 _ _ _ _ _ _ _ _ _ _ _ _ _ _ _ _ _ _ _ _ _ _ _ _ (by omega)).mono fun _ _ h => tkQ_no h
 rw [if_neg h2]
 obtain rfl : n5 = 64 := by omega
 exact av_ok _ _ _ _ _ _ _ _ _ _ _ _ _ _ _ _ _ _ _ _ _ _ _ _ _ _ _ _ _ _ _ hl1 hl2 hl3 hl hx hg1 hg4 hg5 hm1 hm3 hs hr1 hr2 hr3 hr hok hrx he1 he4 he5
def VoR (w : World) (k v : List UInt8) (e : Ending) (w' : World) : Prop := ∃ B d D f, e = .returned (.tuple #[.slice B k.length d, .slice D v.length f]) ∧ St w NoB w' [PcV.ch ⟨B, d, k⟩, PcV.ch ⟨D, f, v⟩]
noncomputable def vouK (y p b : List UInt8) : List UInt8 := if y.length ≠ 32 then [] else if p.length ≠ 32 then [] else if 65536 < b.length then [] else pubL y
noncomputable def vouV (y p b : List UInt8) : List UInt8 := if y.length ≠ 32 then [] else if p.length ≠ 32 then [] else if 65536 < b.length then [] else sigL y (b ++ p)
theorem vou_nil (w : World) : VoR w [] [] (.returned (.tuple #[.slice none 0 0, .slice none 0 0])) w := ⟨none, 0, none, 0, rfl, ((St.init w NoB).row (Below.refl _ _) (World.ownsRow_nil _ _ _ _)).row (Below.refl _ _) (World.ownsRow_nil _ _ _ _)⟩
theorem vouch_bad1 (A1 A2 A3 : Option Addr) (m1 m2 m3 c1 c2 c3 : Nat) (w : World) (hne : m1 ≠ 32) : Calls Tryz.prog 15 #[.slice A1 m1 c1, .slice A2 m2 c2, .slice A3 m3 c3] w (VoR w [] []) := by
 go_enter Tryz.func15, Tryz.ntmps15
 go_wp2_with (go_at_call 31; (with_reducible refine (seed_no _ _ _ _ hne).mono ?_); rintro e wy ⟨rfl, rfl⟩)
 go_ret2
 exact vou_nil w
theorem vouch_bad2 (A1 A2 A3 : Option Addr) (m2 m3 c1 c2 c3 : Nat) (w : World) (hne : m2 ≠ 32) : Calls Tryz.prog 15 #[.slice A1 32 c1, .slice A2 m2 c2, .slice A3 m3 c3] w (VoR w [] []) := by
 have q0 : ((m2 : Int) != 32) = true := by simp; omega
 go_enter Tryz.func15, Tryz.ntmps15
 go_wp2_with (go_at_call 31; (with_reducible refine (seed_yes _ _ _).mono ?_); rintro e wy ⟨rfl, rfl⟩)
 go_ret2
 exact vou_nil w
theorem vouch_ok (A1 A2 A3 : Option Addr) (c1 c2 c3 n : Nat) (y p b : List UInt8) (w : World) (hy : y.length = 32) (hp : p.length = 32) (hb : b.length = n) (hn : n ≤ 10000) (hry : Rd w (.slice A1 32 c1) 1 32 (bvs y)) (hrp : Rd w (.slice A2 32 c2) 1 32 (bvs p)) (hrb : Rd w (.slice A3 n c3) 1 n (bvs b)) :
  Calls Tryz.prog 15 #[.slice A1 32 c1, .slice A2 32 c2, .slice A3 n c3] w (VoR w (pubL y) (sigL y (b ++ p))) := by
 have HS := hide (St.init w NoB)
 have HY := hide hy
 have HP := hide hp
 have HB := hide hb
 have HRY := hide hry
 have HRP := hide hrp
 have HRB := hide hrb
 clear hy hp hb hry hrp hrb
 have HM := hide (len_add HB.out HP.out)
 have d1 : decide ((65536 : Int) < (n : Int)) = false := by simp; omega
 go_enter Tryz.func15, Tryz.ntmps15
 have M0 := True.intro
 go_wp2_with (first
  | (clear M2; go_at_call 49; (with_reducible refine (sign_32 _ _ _ _ _ _ _ _ HY.out HM.out (by omega) (HRY.out.below HS.out.below) (HS.out.rd 0 rfl)).mono ?_); rintro e wy ⟨D, f, rfl, hb, ho⟩; have HS := hide (HS.out.row hb ho); clear ho hb; have M3 := True.intro)
  | (clear M1; go_at_call 50; (with_reducible refine (concat2 _ HB.out HP.out (by omega) (HRB.out.below HS.out.below) (HRP.out.below HS.out.below)).mono ?_); rintro e wy ⟨Bm, dm, rfl, hb, ho⟩; have HS := hide ((HS.out.skip _).row hb ho); clear ho hb; have M2 := True.intro)
  | (clear M0; go_at_call 11; (with_reducible refine (pub_32 _ _ _ _ HY.out (HRY.out.below HS.out.below)).mono ?_); rintro e wy ⟨B, d, rfl, hb, ho⟩; have HS := hide (HS.out.row hb ho); clear ho hb; have M1 := True.intro)
  | (go_at_call 31; (with_reducible refine (seed_yes _ _ _).mono ?_); rintro e wy ⟨rfl, rfl⟩))
 go_ret2
 refine ⟨B, d, D, f, ?_, ?_⟩
 ·rw [pubL_len, sigL_len]
  rfl
 ·unfold PcV.ch PcV.v
  rw [pubL_len, sigL_len]
  exact HS.out.pickL [2, 0] (by decide) rfl
theorem vouch_any (A1 A2 A3 : Option Addr) (m1 m2 n c1 c2 c3 : Nat) (y p b : List UInt8) (w : World) (hy : y.length = m1) (hp : p.length = m2) (hb : b.length = n) (hn : n ≤ 10000) (hry : Rd w (.slice A1 m1 c1) 1 m1 (bvs y)) (hrp : Rd w (.slice A2 m2 c2) 1 m2 (bvs p)) (hrb : Rd w (.slice A3 n c3) 1 n (bvs b)) :
  Calls Tryz.prog 15 #[.slice A1 m1 c1, .slice A2 m2 c2, .slice A3 n c3] w (VoR w (vouK y p b) (vouV y p b)) := by
 unfold vouK vouV
 by_cases h1 : y.length ≠ 32
 ·rw [if_pos h1, if_pos h1]
  exact vouch_bad1 _ _ _ _ _ _ _ _ _ _ (by omega)
 rw [if_neg h1, if_neg h1]
 obtain rfl : m1 = 32 := by omega
 by_cases h2 : p.length ≠ 32
 ·rw [if_pos h2, if_pos h2]
  exact vouch_bad2 _ _ _ _ _ _ _ _ _ (by omega)
 rw [if_neg h2, if_neg h2]
 obtain rfl : m2 = 32 := by omega
 rw [if_neg (by omega), if_neg (by omega)]
 exact vouch_ok _ _ _ _ _ _ _ _ _ _ _ (by omega) (by omega) hb hn hry hrp hrb
end Go.Proofs.YtnohmgpmmhlloaaGreatDoor

namespace Go.Proofs.YtnohmgpmmhlloaaGreatDoor
open Go.RowKit
set_option linter.unusedSimpArgs false
noncomputable def sealRz (t : Tp) : Rz := match t.l.getLast? with
 | none => ⟨1, tp0⟩
 | some x => if t.e.length ≠ 32 then ⟨13, tp0⟩ else ⟨0, sealK t x⟩
theorem seal_bad1 (A1 A2 A3 A : Option Addr) (m1 m2 m3 c1 c2 c3 c : Nat) (w : World)  : Calls Tryz.prog 19 #[.agg #[.slice A1 m1 c1, .slice A 0 c, .slice A2 m2 c2, .slice A3 m3 c3]] w (TkE w 1) := by
 have hS0 := ((St.init w NoB).alloc #[.slice A1 m1 c1, .slice A 0 c, .slice A2 m2 c2, .slice A3 m3 c3] 26).alloc #[.slice none 0 0, .slice none 0 0, .slice none 0 0, .slice none 0 0] 26
 rw [size_alloc1] at hS0
 have HS := hide hS0
 clear hS0
 have t1 : _ = some (Value.slice A 0 c) := HS.out.cell 1 rfl 1
 have t2 : _ = some (Value.slice A2 m2 c2) := HS.out.cell 1 rfl 2
 go_enter Tryz.func19, Tryz.ntmps19
 go_wp2_with (first
  | (refine wl_storeC rfl rfl HS.out 0 rfl (vs := [.slice none 0 0, .slice none 0 0, .slice none 0 0, .slice none 0 0]) szToken (Nat.le_refl _) rfl rfl one4 ?_; intro w7 hS7; have HS7 := hide hS7; clear hS7))
 refine bodyPost_ret (results_cell_tmp_row rfl _ _ (w.heap.size + 1) _ _ _ _ rfl (HS7.out.heap 0 rfl) Tryz.underlying26 rfl (by kernel_rfl)) rfl ?_
 exact ⟨rfl, HS7.out.below⟩
theorem seal_bad2 (A1 A2 A3 A : Option Addr) (m1 m2 m3 n c1 c2 c3 c : Nat) (w : World) (hn : 0 < n) (hne : m2 ≠ 32) : Calls Tryz.prog 19 #[.agg #[.slice A1 m1 c1, .slice A n c, .slice A2 m2 c2, .slice A3 m3 c3]] w (TkE w 13) := by
 have hS0 := ((St.init w NoB).alloc #[.slice A1 m1 c1, .slice A n c, .slice A2 m2 c2, .slice A3 m3 c3] 26).alloc #[.slice none 0 0, .slice none 0 0, .slice none 0 0, .slice none 0 0] 26
 rw [size_alloc1] at hS0
 have HS := hide hS0
 clear hS0
 have t1 : _ = some (Value.slice A n c) := HS.out.cell 1 rfl 1
 have t2 : _ = some (Value.slice A2 m2 c2) := HS.out.cell 1 rfl 2
 have d2 : ((n : Int) == 0) = false := by simp; omega
 have d2' : decide ((n : Int) = 0) = false := by simp; omega
 go_enter Tryz.func19, Tryz.ntmps19
 go_wp2_with (first
  | (refine wl_storeC rfl rfl HS.out 0 rfl (vs := [.slice none 0 0, .slice none 0 0, .slice none 0 0, .slice none 0 0]) szToken (Nat.le_refl _) rfl rfl one4 ?_; intro w7 hS7; have HS7 := hide hS7; clear hS7)
  | (go_at_call 31; (with_reducible refine (seed_no _ _ _ _ hne).mono ?_); rintro e wy ⟨rfl, rfl⟩))
 refine bodyPost_ret (results_cell_tmp_row rfl _ _ (w.heap.size + 1) _ _ _ _ rfl (HS7.out.heap 0 rfl) Tryz.underlying26 rfl (by kernel_rfl)) rfl ?_
 exact ⟨rfl, HS7.out.below⟩
theorem seal_ok (A1 A2 A3 A : Option Addr) (m1 m3 n c1 c2 c3 c : Nat) (l1 l2 l3 : List UInt8) (l : List Sg) (w : World) (hl1 : l1.length = m1) (hl2 : l2.length = 32) (hl3 : l3.length = m3) (hl : l.length = n + 1) (hn : n ≤ 100) (hm1 : m1 ≤ 1000000) (hm3 : m3 ≤ 1000000) (hs : ∀ x ∈ l, x.p.sm) (hs7 : ∀ x ∈ l, x.b.b.length ≤ 70000 ∧ x.n.b.length ≤ 10000 ∧ x.s.b.length ≤ 10000 ∧ x.k.b.length ≤ 10000 ∧ x.v.b.length ≤ 10000)
  (hr1 : Rd w (.slice A1 m1 c1) 1 m1 (bvs l1)) (hr2 : Rd w (.slice A2 32 c2) 1 32 (bvs l2)) (hr3 : Rd w (.slice A3 m3 c3) 1 m3 (bvs l3)) (hr : Rd w (.slice A (n + 1) c) 5 (n + 1) (sgCells l)) (hok : ∀ x ∈ l, SgOK w x) (z : Sg) (hz : l[n]? = some z) :
  Calls Tryz.prog 19 #[.agg #[.slice A1 m1 c1, .slice A (n + 1) c, .slice A2 32 c2, .slice A3 m3 c3]] w (TkG w (sealK ⟨l1, l.map Sg.p, l2, l3⟩ z.p)) := by
 have hS0 := ((St.init w NoB).alloc #[.slice A1 m1 c1, .slice A (n + 1) c, .slice A2 32 c2, .slice A3 m3 c3] 26).alloc #[.slice none 0 0, .slice none 0 0, .slice none 0 0, .slice none 0 0] 26
 rw [size_alloc1] at hS0
 have HS := hide hS0
 clear hS0
 have HL1 := hide hl1
 have HL2 := hide hl2
 have HL3 := hide hl3
 have HL := hide hl
 have HSS := hide hs
 have HS7 := hide hs7
 have HR1 := hide hr1
 have HR2 := hide hr2
 have HR3 := hide hr3
 have HR := hide hr
 have HOK := hide hok
 have HZ := hide hz
 clear hl1 hl2 hl3 hl hs hs7 hr1 hr2 hr3 hr hok hz
 have d2 : (((n + 1 : Nat) : Int) == 0) = false := by simp; omega
 have d2' : decide (((n + 1 : Nat) : Int) = 0) = false := by simp; omega
 have t0 : _ = some (Value.slice A1 m1 c1) := HS.out.cell 1 rfl 0
 have t1 : _ = some (Value.slice A (n + 1) c) := HS.out.cell 1 rfl 1
 have t2 : _ = some (Value.slice A2 32 c2) := HS.out.cell 1 rfl 2
 have t3 : _ = some (Value.slice A3 m3 c3) := HS.out.cell 1 rfl 3
 go_enter Tryz.func19, Tryz.ntmps19
 have M0 := True.intro
 go_upto_region 6 with (first
  | (clear M1; refine wl_storeC rfl rfl HS.out 1 rfl (vs := [.slice B1 m1 d1, .slice X (n + 1) x, .slice B2 32 d2x, .slice B3 m3 d3]) szToken (Nat.le_refl _) rfl rfl one4 ?_; intro w5 hS5; have HS := hide hS5; clear hS5; have M2 := True.intro)
  | (clear M0; go_at_call 52; (with_reducible refine (token_core _ _ _ _ _ _ _ _ _ _ _ _ _ _ _ _ _ HL1.out HL2.out HL3.out HL.out hm1 (by omega) hm3 (by omega) (HR1.out.below HS.out.below) (HR2.out.below HS.out.below) (HR3.out.below HS.out.below) (HR.out.below HS.out.below) (fun x hx => (HOK.out x hx).on HS.out.below) HSS.out).mono ?_); rintro e wy ⟨B1, d1, X, x, B2, d2x, B3, d3, zs, G, rfl, hzl, hp, hG, hSz⟩; have HS := hide (St.rot _ _ (HS.out.join hSz)); clear hSz; have HZL := hide hzl; have HP := hide hp; have HG := hide hG; clear hp hG hzl; have M1 := True.intro)
  | (go_at_call 31; (with_reducible refine (seed_yes _ _ _).mono ?_); rintro e wy ⟨rfl, rfl⟩))
 have HS : Hid (St w NoB w5 (.cells (w.heap.size + 1) #[.slice none 0 0, .slice none 0 0, .slice none 0 0, .slice none 0 0] 26 :: .cells w.heap.size #[.slice B1 m1 d1, .slice X (n + 1) x, .slice B2 32 d2x, .slice B3 m3 d3] 26 :: .row (.slice X (n + 1) x) 32 5 (n + 1) (sgCells zs) :: .row (.slice B1 m1 d1) 5 1 m1 (bvs l1) :: .row (.slice B2 32 d2x) 5 1 32 (bvs l2) :: .row (.slice B3 m3 d3) 5 1 m3 (bvs l3) :: G)) := HS
 clear t0 t1 t2 t3
 have hzn : n < zs.length := by rw [HZL.out]; omega
 have hlk : zs[n]? = some zs[n] := List.getElem?_eq_getElem hzn
 have hpz : (zs[n]).p = z.p := by
  have e1 : (zs.map Sg.p)[n]? = (l.map Sg.p)[n]? := by rw [HP.out]
  rw [List.getElem?_map, List.getElem?_map, hlk, HZ.out] at e1
  exact Option.some.inj e1
 have hmz := HG.out _ (List.getElem_mem hzn)
 have hbz := HS7.out z (List.mem_of_getElem? HZ.out)
 generalize zs[n] = y at hlk hpz hmz
 obtain ⟨⟨E1, f1, y1⟩, ⟨E2, f2, y2⟩, ⟨E3, f3, y3⟩, ⟨E4, f4, y4⟩, ⟨E5, f5, y5⟩⟩ := y
 obtain ⟨⟨_, _, z1⟩, ⟨_, _, z2⟩, ⟨_, _, z3⟩, ⟨_, _, z4⟩, ⟨_, _, z5⟩⟩ := z
 obtain ⟨g1, g2, g3, g4, g5⟩ := Sp.mk.inj (show Sp.mk y1 y2 y3 y4 y5 = Sp.mk z1 z2 z3 z4 z5 from hpz)
 subst g1 g2 g3 g4 g5
 obtain ⟨b1, b2, b3, b4, b5⟩ := (show y1.length ≤ 70000 ∧ y2.length ≤ 10000 ∧ y3.length ≤ 10000 ∧ y4.length ≤ 10000 ∧ y5.length ≤ 10000 from hbz)
 clear hpz hbz
 obtain ⟨bb, o, rfl, hb8, hc⟩ := sg_at (HS.out.rd 2 rfl) hlk
 have HSG := hide (SgIn.ok HS.out hmz (fun c hc => (by show c ∈ _ :: _ :: _ :: _ :: _ :: _ :: G; (iterate 6 apply List.mem_cons_of_mem); exact hc)))
 have HE1 : Hid (Rd w5 (.slice E1 y1.length f1) 1 y1.length (bvs y1)) := hide HSG.out.b
 have HE2 : Hid (Rd w5 (.slice E2 y2.length f2) 1 y2.length (bvs y2)) := hide HSG.out.n
 have HE3 : Hid (Rd w5 (.slice E3 y3.length f3) 1 y3.length (bvs y3)) := hide HSG.out.s
 have HE4 : Hid (Rd w5 (.slice E4 y4.length f4) 1 y4.length (bvs y4)) := hide HSG.out.k
 have HE5 : Hid (Rd w5 (.slice E5 y5.length f5) 1 y5.length (bvs y5)) := hide HSG.out.v
 clear HSG hlk hzn
 refine wp_region_T [(0, 1), (1, 0), (2, 1), (3, 0), (4, 1), (5, 0), (6, 1), (7, 1), (8, 1), (9, 0), (10, 2), (11, 2), (12, 1), (13, 3)] (by kernel_rfl) (by kernel_rfl) (fun _ _ _ _ h => h) ?_
 have HSD := hide (St.init w5 NoB).drew
 have HS := hide HS.out.drew
 obtain ⟨k0, k1, k2, k3, k4⟩ := hc _ HSD.out.below
 clear hc hb8
 generalize hwd : w5.drew = w6 at HS HSD k0 k1 k2 k3 k4 ⊢
 have t1 : _ = some (Value.slice (some ⟨bb, o, none⟩) (n + 1) x) := HS.out.cell 1 rfl 1
 have t2 : _ = some (Value.slice B2 32 d2x) := HS.out.cell 1 rfl 2
 have HE1 := hide (HE1.out.below HSD.out.below)
 have HE2 := hide (HE2.out.below HSD.out.below)
 have HE3 := hide (HE3.out.below HSD.out.below)
 have HE4 := hide (HE4.out.below HSD.out.below)
 have HE5 := hide (HE5.out.below HSD.out.below)
 have HM := hide (len_add3 (rfl : y1.length = _) (rfl : y2.length = _) (rfl : y3.length = _))
 have en : ((n + 1 : Nat) : Int) - 1 = (n : Int) := by omega
 have en2 : (n : Int) + 1 - 1 = (n : Int) := by omega
 have nn : (n : Int) < (n : Int) + 1 := by omega
 have nn2 : n < n + 1 := by omega
 have nn3 : decide ((n : Int) < (n : Int) + 1) = true := by simp; omega
 have nn4 : decide (n < n + 1) = true := by simp
 have M0 := True.intro
 go_upto_region 7 with (first
  | (clear M1; go_at_call 49; (with_reducible refine (sign_32 _ _ _ _ _ _ _ _ HL2.out HM.out (by omega) (HS.out.rd 5 rfl) (HS.out.rd 0 rfl)).mono ?_); rintro e w8 ⟨Bg, dg, rfl, hb, ho⟩; have HS := hide (HS.out.row hb ho); clear ho; have q3 : _ = some (Value.slice B3 m3 d3) := HS.out.cell 3 rfl 3; have g3 := HS.out.free 3 rfl 3; have M2 := True.intro)
  | (clear M0; go_at_call 53; (with_reducible refine (sealed_core _ _ _ _ _ _ _ _ _ _ _ _ _ _ _ _ _ _ _ _ _ rfl b1 HE1.out rfl (by omega) HE2.out rfl (by omega) HE3.out rfl (by omega) HE4.out rfl (by omega) HE5.out).mono ?_); rintro e w7 ⟨Bm, dm, rfl, hb, ho⟩; have HS := hide (HS.out.row hb ho); clear ho; have M1 := True.intro)
  | (refine wpT_nil ?_)   | ((with_reducible refine fromT_refl ?_); (try simp only [Act.put, nq1, nq2, nq3, nq4, nq5, nq6]))   | ((with_reducible refine fromT_mk (by assumption) ?_); (try simp only [Act.put, nq1, nq2, nq3, nq4, nq5, nq6]))   | (refine wpT_pure (v := ?_) rfl rfl ?_ ?_; rotate_left; (intro wx; go_simp; try go_bits) <;> (with_reducible rfl); (try simp only [Act.put, nq1, nq2, nq3, nq4, nq5, nq6]))   | (refine wpT_load (v := ?_) rfl rfl rfl ?_ ?_; rotate_left; (go_simp; try go_bits) <;> (with_reducible rfl); (try simp only [Act.put, nq1, nq2, nq3, nq4, nq5, nq6]))   | (refine wpT_read (v := ?_) rfl rfl ?_ ?_; rotate_left; (intro wx hx; go_simp; try go_bits) <;> (with_reducible rfl); (try simp only [Act.put, nq1, nq2, nq3, nq4, nq5, nq6]))   | (refine wpT_call rfl rfl ?_; intro K hK)   | (refine wpT_late rfl rfl ?_; intro K hK)   | (refine wpT_any rfl rfl ?_; intro K hK)   | (refine wpT_skip rfl rfl ?_; (try simp only [Act.put, nq1, nq2, nq3, nq4, nq5, nq6])))
 have HS := hide (HS.out.setCell 3 rfl 3 (.slice Bg 64 dg))
 clear q3 g3 t1 t2 k0 k1 k2 k3 k4
 generalize World.setCell w8 _ _ = w9 at HS ⊢
 have q2 : _ = some (Value.slice B2 32 d2x) := HS.out.cell 3 rfl 2
 have g2 := HS.out.free 3 rfl 2
 go_upto_region 8 with fail
 have HS := hide (HS.out.setCell 3 rfl 2 (.slice none 0 0))
 clear q2 g2
 generalize World.setCell w9 _ _ = wa at HS ⊢
 have t0 : _ = some (Value.slice B1 m1 d1) := HS.out.cell 3 rfl 0
 have t1 : _ = some (Value.slice (some ⟨bb, o, none⟩) (n + 1) x) := HS.out.cell 3 rfl 1
 have t2 : _ = some (Value.slice none 0 0) := HS.out.cell 3 rfl 2
 have t3 : _ = some (Value.slice Bg 64 dg) := HS.out.cell 3 rfl 3
 go_wp2_with (refine wl_storeC rfl rfl HS.out 2 rfl (vs := [.slice B1 m1 d1, .slice (some ⟨bb, o, none⟩) (n + 1) x, .slice none 0 0, .slice Bg 64 dg]) szToken (Nat.le_refl _) rfl rfl one4 ?_; intro wz hS9; have HS7 := hide hS9; clear hS9)
 refine bodyPost_ret (results_cell_tmp_row rfl _ _ (w.heap.size + 1) _ _ _ _ rfl (HS7.out.heap 2 rfl) Tryz.underlying26 rfl (by kernel_rfl)) rfl ?_
 refine ⟨⟨⟨B1, d1, l1⟩, some ⟨bb, o, none⟩, x, zs, pc0, ⟨Bg, dg, sigL l2 (y1 ++ (y2 ++ y3))⟩⟩, _, ?_, ?_, ⟨List.mem_cons_of_mem _ (pc_ch HL1.out 5 rfl), List.mem_cons_of_mem _ ?_, fun v hv => ?_, List.mem_cons_self .., List.mem_cons_of_mem _ (pc_ch (sigL_len _ _) 0 rfl)⟩, HS7.out.row (Below.refl _ _) (World.ownsRow_nil _ _ _ _)⟩
 ·rw [Tk.val_eq]
  simp only [HL1.out, HZL.out, sigL_len]
  rfl
 ·show Tp.mk l1 (List.map Sg.p zs) [] _ = _
  unfold sealK
  rw [HP.out]
  rfl
 ·show Chunk.row (.slice (some ⟨bb, o, none⟩) zs.length x) _ 5 zs.length _ ∈ _
  rw [HZL.out]
  exact List.mem_of_getElem? (i := 4) rfl
 ·intro c hc
  have hc := HG.out v hv c hc
  show c ∈ _ :: _ :: _ :: _ :: _ :: _ :: _ :: _ :: _ :: G
  (iterate 9 apply List.mem_cons_of_mem)
  exact hc
theorem last_map {l : List Sg} {z : Sg} {n : Nat} (hl : l.length = n + 1) (hz : l[n]? = some z) : (l.map Sg.p).getLast? = some z.p := by
 rw [List.getLast?_map, List.getLast?_eq_getElem?, hl, Nat.add_sub_cancel, hz]
 rfl
theorem seal_any (A1 A2 A3 A : Option Addr) (m1 m2 m3 n c1 c2 c3 c : Nat) (l1 l2 l3 : List UInt8) (l : List Sg) (w : World) (hl1 : l1.length = m1) (hl2 : l2.length = m2) (hl3 : l3.length = m3) (hl : l.length = n) (hn : n ≤ 100) (hm1 : m1 ≤ 1000000) (hm3 : m3 ≤ 1000000) (hs : ∀ x ∈ l, x.p.sm) (hs7 : ∀ x ∈ l, x.b.b.length ≤ 70000 ∧ x.n.b.length ≤ 10000 ∧ x.s.b.length ≤ 10000 ∧ x.k.b.length ≤ 10000 ∧ x.v.b.length ≤ 10000)
  (hr1 : Rd w (.slice A1 m1 c1) 1 m1 (bvs l1)) (hr2 : Rd w (.slice A2 m2 c2) 1 m2 (bvs l2)) (hr3 : Rd w (.slice A3 m3 c3) 1 m3 (bvs l3)) (hr : Rd w (.slice A n c) 5 n (sgCells l)) (hok : ∀ x ∈ l, SgOK w x) :
  Calls Tryz.prog 19 #[.agg #[.slice A1 m1 c1, .slice A n c, .slice A2 m2 c2, .slice A3 m3 c3]] w (TkQ w (sealRz ⟨l1, l.map Sg.p, l2, l3⟩)) := by
 by_cases h1 : n = 0
 ·subst h1
  have e := List.eq_nil_of_length_eq_zero hl
  subst e
  exact (seal_bad1 _ _ _ _ _ _ _ _ _ _ _ _).mono fun _ _ h => tkQ_no h
 obtain ⟨m, rfl⟩ : ∃ m, n = m + 1 := ⟨n - 1, by omega⟩
 have hz : l[m]? = some (l[m]'(by omega)) := List.getElem?_eq_getElem (by omega)
 unfold sealRz
 show Calls _ _ _ _ (TkQ w (match (l.map Sg.p).getLast? with | none => _ | some x => if l2.length ≠ 32 then _ else _))
 rw [last_map hl hz]
 show Calls _ _ _ _ (TkQ w (if l2.length ≠ 32 then _ else _))
 by_cases h2 : l2.length ≠ 32
 ·rw [if_pos h2]
  exact (seal_bad2 _ _ _ _ _ _ _ _ _ _ _ _ _ (by omega) (by omega)).mono fun _ _ h => tkQ_no h
 rw [if_neg h2]
 obtain rfl : m2 = 32 := by omega
 exact (seal_ok _ _ _ _ _ _ _ _ _ _ _ _ _ _ _ _ hl1 hl2 hl3 hl (by omega) hm1 hm3 hs hs7 hr1 hr2 hr3 hr hok _ hz).mono fun _ _ h => tkQ_ok h
end Go.Proofs.YtnohmgpmmhlloaaGreatDoor

namespace Go.Proofs.YtnohmgpmmhlloaaGreatDoor.S6
set_option maxRecDepth 100000
open Go.RowKit
def MsgW (g : Nat) (lg : Int) (v : Value) (l : List UInt8) (H : List Chunk) : List Chunk := .cells g #[v, .int .i64 lg] 84 :: .row v 5 1 l.length (bvs l) :: H
theorem taggedW {w0 w : World} {M : Nat → Prop} {H : List Chunk} (g : Nat) (lg : Int) (v : Value) (l : List UInt8) (num wire : Int) (h1 : 1 ≤ num) (h2 : num ≤ 100) (h3 : wire = 0 ∨ wire = 2) (hl : l.length ≤ 1000000)
  (hS : St w0 M w (.cells g #[v, .int .i64 lg] 84 :: .row v 5 1 l.length (bvs l) :: H)) :
  Calls Tryz.prog 167 #[.pointer (some ⟨g, 0, none⟩), .int .i64 num, .int .i64 wire] w fun e w' => e = .returned (.tuple #[]) ∧
   ∃ v', St w0 M w' (.cells g #[v', .int .i64 lg] 84 :: .row v' 5 1 (l ++ vb (8 * num.toNat + wire.toNat)).length (bvs (l ++ vb (8 * num.toNat + wire.toNat))) :: H) := by
 have hc := hS.cell 0 rfl 0
 have hf := hS.free 0 rfl 0
 simp only [List.getElem?_toArray, List.getElem?_cons_zero] at hc
 have HT := hide (tag_eq num wire h1 h2 h3)
 have HL := hide hl
 have H1 := hide h1
 have H2 := hide h2
 have H3 := hide h3
 clear hl h3 h1 h2
 go_enter Tryz.func167, Tryz.ntmps167
 go_wp2_with fail
 go_region_law ((try simp only [Act.put, nq1, nq2, nq3, nq4, nq5, nq6]); first
  | (refine step_call rfl rfl enVarint (congrArg (fun x => [Value.int IntKind.u64 x]) HT.out) (varint_any (8 * num.toNat + wire.toNat) _ ?_) ?_; (have := H1.out; have := H2.out; have := H3.out; unfold W64; omega); rintro e w1 ⟨A1, c1, rfl, hb, ho⟩; refine ⟨_, rfl, ?_⟩; have hS1 := hS.drew.row hb ho; have hc1 : w1.cell? ⟨g, 0, none⟩ = some v := hS1.cell 1 rfl 0)
  | (refine step_append rfl rfl tyB hS1 2 rfl rfl rfl (hS1.rd 0 rfl) (one_bvs _) ?_ (by decide) ?_; (have := HL.out; have := (vb_len (8 * num.toNat + wire.toNat)).1; omega); intro A2 c2 w2 hS2; have hc2 : w2.cell? ⟨g, 0, none⟩ = some v := hS2.cell 1 rfl 0; have hf2 := hS2.free 1 rfl 0))
 all_goals (
  have hS3 := (hS2.setCell 1 rfl 0 (.slice A2 (l.length + (vb (8 * num.toNat + wire.toNat)).length) c2)).tail
  go_end0
  refine ⟨rfl, .slice A2 (l.length + (vb (8 * num.toNat + wire.toNat)).length) c2, ?_⟩
  rw [List.length_append, bvs_append]
  exact hS3)
theorem rawW_yes {w0 w : World} {M : Nat → Prop} {H : List Chunk} (g : Nat) (lg : Int) (v : Value) (l : List UInt8) (num : Int) (A : Option Addr) (c : Nat) (b : List UInt8) (hm : mayB num = true) (hl : l.length ≤ 900000) (hb : b.length ≤ 65536)
  (hr : RdH w0 M H (.slice A b.length c) 1 b.length (bvs b)) (hS : St w0 M w (MsgW g lg v l H)) :
  Calls Tryz.prog 147 #[.pointer (some ⟨g, 0, none⟩), .int .i64 num, .slice A b.length c] w fun e w' => e = .returned (.tuple #[]) ∧
   ∃ v', St w0 M w' (MsgW g lg v' (l ++ (vb (8 * num.toNat + 2) ++ (vb b.length ++ b))) H) := by
 unfold MsgW at hS
 obtain ⟨m1, m2⟩ := mayB_of num hm
 obtain ⟨t, ht⟩ : ∃ t, t = vb (8 * num.toNat + 2) := ⟨_, rfl⟩
 obtain ⟨u, hu⟩ : ∃ u, u = vb b.length := ⟨_, rfl⟩
 have htl : t.length ≤ 10 := by rw [ht]; exact (vb_len _).1
 have hul : u.length ≤ 10 := by rw [hu]; exact (vb_len _).1
 have T : ∀ W, Calls Tryz.prog 168 #[.int .u64 (b.length : Nat)] W (ResB 5 W u) := fun W => by rw [hu]; exact varint_any b.length W (by unfold W64; omega)
 have G := taggedW g lg v l num 2 m1 m2 (.inr rfl) (by omega) hS
 rw [show (2 : Int).toNat = 2 from rfl, ← ht] at G
 rw [← ht, ← hu]
 have hn' : ¬ (65536 : Int) < (b.length : Int) := by omega
 have TT := hide T
 have GG := hide G
 have HL := hide (show l.length + t.length + u.length + b.length ≤ 1000000 by omega)
 have RR := hide hr
 have WW := hide (show IntKind.u64.wrap (b.length : Int) = (b.length : Int) by rw [IntKind.wrap_u64]; omega)
 clear T G ht hu hl htl m1 m2 hr hb
 go_enter Tryz.func147, Tryz.ntmps147
 go_wp2_with (first
  | (go_at_call 152; refine (may_any _ _).mono ?_; rintro e w' ⟨rfl, rfl⟩)
  | (go_at_call 167; refine GG.out.mono ?_; rintro e w1 ⟨rfl, v1, hS1⟩; simp only [List.length_append] at hS1; have hc1 : w1.cell? ⟨g, 0, none⟩ = some v1 := hS1.cell 0 rfl 0))
 go_region_law ((try simp only [Act.put, nq1, nq2, nq3, nq4, nq5, nq6]); first
  | (refine step_append (s := .tmp 25) (x := .tmp 29) rfl rfl tyB hS2 2 rfl rfl rfl (hS2.rd 0 rfl) (one_bvs _) ?_ (by decide) ?_; (have := HL.out; omega); intro A2 c2 w3 hS3; have hc3 : w3.cell? ⟨g, 0, none⟩ = some v1 := hS3.cell 1 rfl 0; have hf3 := hS3.free 1 rfl 0)
  | (refine step_append (s := .tmp 30) (x := .tmp 31) rfl rfl tyB hS3 2 rfl rfl rfl (RR.out _ hS3.tail.tail.tail) (one_bvs _) ?_ (by decide) ?_; (have := HL.out; omega); intro A3 c3 w4 hS4; have hc4 : w4.cell? ⟨g, 0, none⟩ = some v1 := hS4.cell 1 rfl 0; have hf4 := hS4.free 1 rfl 0)
  | (refine step_call rfl rfl enVarint (congrArg (fun x => [Value.int IntKind.u64 x]) WW.out) (TT.out _) ?_; rintro e w2 ⟨A1, c1, rfl, hb, ho⟩; refine ⟨_, rfl, ?_⟩; have hS2 := hS1.drew.row hb ho; have hc2 : w2.cell? ⟨g, 0, none⟩ = some v1 := hS2.cell 1 rfl 0))
 all_goals (
  have hS5 := (hS4.setCell 1 rfl 0 (.slice A3 (l.length + t.length + u.length + b.length) c3)).tail
  go_end0
  refine ⟨rfl, .slice A3 (l.length + t.length + u.length + b.length) c3, ?_⟩
  unfold MsgW
  simp only [bvs_append, List.length_append, ← Nat.add_assoc, ← List.append_assoc] at hS5 ⊢
  exact hS5)
theorem rawW_any {w0 w : World} {M : Nat → Prop} {H : List Chunk} (g : Nat) (lg : Int) (v : Value) (l : List UInt8) (num : Int) (A : Option Addr) (c : Nat) (b : List UInt8) (hl : l.length ≤ 900000) (hb : b.length ≤ 65536)
  (hr : RdH w0 M H (.slice A b.length c) 1 b.length (bvs b)) (hS : St w0 M w (MsgW g lg v l H)) :
  Calls Tryz.prog 147 #[.pointer (some ⟨g, 0, none⟩), .int .i64 num, .slice A b.length c] w fun e w' => e = .returned (.tuple #[]) ∧ ∃ v', St w0 M w' (MsgW g lg v' (l ++ putR num b) H) := by
 cases h : mayB num
 ·rw [putR_no num b h, List.append_nil]
  exact (raw_no g num A b.length c h hS).mono fun e w' ⟨he, hs⟩ => ⟨he, v, hs⟩
 ·rw [putR_yes num b h hb]
  exact rawW_yes g lg v l num A c b h hl hb hr hS
theorem wraw_any {w0 w : World} {M : Nat → Prop} {H : List Chunk} (g : Nat) (lg : Int) (v : Value) (l : List UInt8) (num : Int) (A : Option Addr) (c : Nat) (b : List UInt8) (hl : l.length ≤ 900000) (hb : b.length ≤ 65536)
  (hr : RdH w0 M H (.slice A b.length c) 1 b.length (bvs b)) (hS : St w0 M w (MsgW g lg v l H)) :
  Calls Tryz.prog 110 #[.pointer (some ⟨g, 0, none⟩), .int .i64 num, .slice A b.length c] w fun e w' => e = .returned (.tuple #[]) ∧ ∃ v', St w0 M w' (MsgW g lg v' (l ++ putR num b) H) := by
 have HC := hide (rawW_any g lg v l num A c b hl hb hr hS)
 have d0 : decide ((65536 : Int) < (b.length : Int)) = false := by simp; omega
 generalize b.length = n at HC d0 ⊢
 clear hr hS hl hb
 go_enter Tryz.func110, Tryz.ntmps110
 go_wp2_with (go_at_call 147; (with_reducible refine HC.out.mono ?_); rintro e w1 ⟨rfl, v1, hS1⟩)
 go_end0
 exact ⟨rfl, v1, hS1⟩
def someL (num : Int) (b : List UInt8) : List UInt8 := if b.length = 0 then [] else putR num b
theorem wsome_any {w0 w : World} {M : Nat → Prop} {H : List Chunk} (g : Nat) (lg : Int) (v : Value) (l : List UInt8) (num : Int) (A : Option Addr) (c : Nat) (b : List UInt8) (hl : l.length ≤ 900000) (hb : b.length ≤ 65536)
  (hr : RdH w0 M H (.slice A b.length c) 1 b.length (bvs b)) (hS : St w0 M w (MsgW g lg v l H)) :
  Calls Tryz.prog 60 #[.pointer (some ⟨g, 0, none⟩), .int .i64 num, .slice A b.length c] w fun e w' => e = .returned (.tuple #[]) ∧ ∃ v', St w0 M w' (MsgW g lg v' (l ++ someL num b) H) := by
 unfold someL
 by_cases h0 : b.length = 0
 ·rw [if_pos h0, h0, List.append_nil]
  have HS := hide hS
  clear hS hr hl hb h0
  go_enter Tryz.func60, Tryz.ntmps60
  go_wp2_with fail
  go_end0
  exact ⟨rfl, v, HS.out⟩
 ·rw [if_neg h0]
  have HC := hide (wraw_any g lg v l num A c b hl hb hr hS)
  have d0 : decide ((0 : Int) < (b.length : Int)) = true := by simp; omega
  have d1 : decide (0 < b.length) = true := by simp; omega
  generalize b.length = n at HC d0 d1 ⊢
  clear hr hS hl hb h0
  go_enter Tryz.func60, Tryz.ntmps60
  go_wp2_with (go_at_call 110; (with_reducible refine HC.out.mono ?_); rintro e w1 ⟨rfl, v1, hS1⟩)
  go_end0
  exact ⟨rfl, v1, hS1⟩
end Go.Proofs.YtnohmgpmmhlloaaGreatDoor.S6

namespace Go.Proofs.YtnohmgpmmhlloaaGreatDoor
open Go.RowKit
set_option linter.unusedSimpArgs false
theorem St.perm {w0 w : World} {M : Nat → Prop} {H H' : List Chunk} (h : St w0 M w H) (p : H.Perm H') : St w0 M w H' := by
 have h1 : H.Pairwise (fun c d => ∀ k, c.block = some k → d.block ≠ some k) := List.pairwise_iff_getElem.2 fun i j hi hj hij k hc => h.apart i j _ _ k (by omega) (List.getElem?_eq_getElem hi) (List.getElem?_eq_getElem hj) hc
 have h2 := (List.Perm.pairwise_iff (R := fun c d : Chunk => ∀ k, c.block = some k → d.block ≠ some k) (fun {x y} hxy k hy hx => hxy k hx hy) p).1 h1
 refine ⟨h.ext, fun i c hc => ?_, fun i c k hc hb => ?_, fun i j c d k hij hc hd hb hb' => ?_⟩
 ·obtain ⟨j, hj⟩ := List.getElem?_of_mem (p.mem_iff.2 (List.mem_of_getElem? hc))
  exact h.sat j c hj
 ·obtain ⟨j, hj⟩ := List.getElem?_of_mem (p.mem_iff.2 (List.mem_of_getElem? hc))
  exact h.own j c k hj hb
 ·obtain ⟨hi, e1⟩ := List.getElem?_eq_some_iff.1 hc
  obtain ⟨hj, e2⟩ := List.getElem?_eq_some_iff.1 hd
  have h3 := List.pairwise_iff_getElem.1 h2
  rcases Nat.lt_or_gt_of_ne hij with hlt | hlt
  ·have := h3 i j hi hj hlt k
   rw [e1, e2] at this
   exact this hb hb'
  ·have := h3 j i hj hi hlt k
   rw [e1, e2] at this
   exact this hb' hb
def Laid (G : List Chunk) (p : Tp) (B1 : Option Addr) (m1 d1 : Nat) (X : Option Addr) (n x : Nat) (B2 : Option Addr) (m2 d2 : Nat) (B3 : Option Addr) (m3 d3 : Nat) : Prop :=
 ∃ k1 k2 k3 zs, k1.length = m1 ∧ zs.length = n ∧ k2.length = m2 ∧ k3.length = m3 ∧ Tp.mk k1 (zs.map Sg.p) k2 k3 = p ∧ TkIn G ⟨⟨B1, d1, k1⟩, X, x, zs, ⟨B2, d2, k2⟩, ⟨B3, d3, k3⟩⟩
section
variable {G G' : List Chunk} {p : Tp} {B1 X B2 B3 : Option Addr} {m1 d1 n x m2 d2 m3 d3 : Nat}
theorem Laid.mono (h : Laid G p B1 m1 d1 X n x B2 m2 d2 B3 m3 d3) (hs : ∀ c ∈ G, c ∈ G') : Laid G' p B1 m1 d1 X n x B2 m2 d2 B3 m3 d3 := by
 obtain ⟨k1, k2, k3, zs, h1, h2, h3, h4, h5, h6⟩ := h
 exact ⟨k1, k2, k3, zs, h1, h2, h3, h4, h5, h6.mono hs⟩
theorem Laid.open {w0 w : World} {M : Nat → Prop} (hS : St w0 M w G) (h : Laid G p B1 m1 d1 X n x B2 m2 d2 B3 m3 d3) : ∃ zs, zs.length = n ∧ zs.map Sg.p = p.l ∧ p.r.length = m1 ∧ p.e.length = m2 ∧ p.z.length = m3 ∧ Rd w (.slice B1 m1 d1) 1 m1 (bvs p.r) ∧ Rd w (.slice B2 m2 d2) 1 m2 (bvs p.e) ∧ Rd w (.slice B3 m3 d3) 1 m3 (bvs p.z) ∧ Rd w (.slice X n x) 5 n (sgCells zs) ∧ ∀ y ∈ zs, SgOK w y := by
 obtain ⟨k1, k2, k3, zs, h1, h2, h3, h4, h5, h6⟩ := h
 subst h1 h2 h3 h4 h5
 have hk := h6.ok hS
 exact ⟨zs, rfl, rfl, rfl, rfl, rfl, hk.r, hk.e, hk.z, hk.row, hk.l⟩
end
def TkS (w : World) (c : Nat) (p : Tp) (m1 n m2 m3 : Nat) (e : Ending) (w' : World) : Prop := ∃ B1 d1 X x B2 d2 B3 d3 G, e = .returned (.tuple #[.agg #[.slice B1 m1 d1, .slice X n x, .slice B2 m2 d2, .slice B3 m3 d3], .int .i64 (c : Int)]) ∧ Laid G p B1 m1 d1 X n x B2 m2 d2 B3 m3 d3 ∧ St w NoB w' G
theorem tkS_of {w : World} {r : Rz} {e : Ending} {w' : World} {m1 n m2 m3 : Nat} (h : TkQ w r e w') (h1 : r.p.r.length = m1) (h2 : r.p.l.length = n) (h3 : r.p.e.length = m2) (h4 : r.p.z.length = m3) : TkS w r.c r.p m1 n m2 m3 e w' := by
 obtain ⟨⟨⟨B1, d1, k1⟩, X, x, zs, ⟨B2, d2, k2⟩, ⟨B3, d3, k3⟩⟩, G, rfl, hp, hg, hS⟩ := h
 replace hp : Tp.mk k1 (zs.map Sg.p) k2 k3 = r.p := hp
 have q1 : k1.length = m1 := by rw [← h1, ← hp]
 have q2 : zs.length = n := by rw [← h2, ← hp]; exact (List.length_map ..).symm
 have q3 : k2.length = m2 := by rw [← h3, ← hp]
 have q4 : k3.length = m3 := by rw [← h4, ← hp]
 refine ⟨B1, d1, X, x, B2, d2, B3, d3, G, ?_, ⟨k1, k2, k3, zs, q1, q2, q3, q4, hp, hg⟩, hS⟩
 show Ending.returned (.tuple #[.agg #[.slice B1 k1.length d1, .slice X zs.length x, .slice B2 k2.length d2, .slice B3 k3.length d3], _]) = _
 rw [q1, q2, q3, q4]
theorem sm_mem {p : Tp} {zs : List Sg} (h : p.sm) (hz : zs.map Sg.p = p.l) : ∀ x ∈ zs, x.p.sm := fun x hx => h.2.2.2.2 _ (by rw [← hz]; exact List.mem_map_of_mem hx)
section
variable {w0 w : World} {M : Nat → Prop} {H : List Chunk} {p : Tp}
theorem append_in {nx y1 : List UInt8} {r : Rz} {M1 N M2 M3 : Nat} {B1 X B2 B3 Ax E1 : Option Addr} {m1 d1 n x m2 d2 m3 d3 q cx n1 f1 : Nat} (hS : St w0 M w H) (hL : Laid H p B1 m1 d1 X n x B2 m2 d2 B3 m3 d3) (hsm : p.sm) (hx : nx.length = q) (hg1 : y1.length = n1) (hrx : Rd w (.slice Ax q cx) 1 q (bvs nx)) (he1 : Rd w (.slice E1 n1 f1) 1 n1 (bvs y1))
  (hr : addRz p nx ⟨y1, [], [], [], []⟩ = r) (h1 : r.p.r.length = M1) (h2 : r.p.l.length = N) (h3 : r.p.e.length = M2) (h4 : r.p.z.length = M3) :
  Calls Tryz.prog 21 #[.agg #[.slice B1 m1 d1, .slice X n x, .slice B2 m2 d2, .slice B3 m3 d3], .slice Ax q cx, .slice E1 n1 f1] w (TkS w r.c r.p M1 N M2 M3) := by
 obtain ⟨zs, e1, e2, e3, e4, e5, r1, r2, r3, r4, hok⟩ := hL.open hS
 obtain ⟨pr, pl, pe, pz⟩ := p
 subst e2
 have h := append_any B1 B2 B3 X Ax E1 m1 m2 m3 n q n1 d1 d2 d3 x cx f1 pr pe pz nx zs y1 w e3 e4 e5 e1 hx hg1 (by have := hsm.1; rw [← e3]; exact this) (by have := hsm.2.2.1; rw [← e5]; exact this) (sm_mem hsm rfl) r1 r2 r3 r4 hok hrx he1
 rw [hr] at h
 exact h.mono fun _ _ h => tkS_of h h1 h2 h3 h4
end
theorem issue_in {Ay Ax A : Option Addr} {cy cx n c : Nat} {y nx l : List UInt8} (w : World) (hy : y.length = 32) (hx : nx.length = 32) (hl : l.length = n) (hn : n ≤ 65536) (hry : Rd w (.slice Ay 32 cy) 1 32 (bvs y)) (hrx : Rd w (.slice Ax 32 cx) 1 32 (bvs nx)) (hr : Rd w (.slice A n c) 1 n (bvs l)) :
  Calls Tryz.prog 9 #[.slice Ay 32 cy, .slice Ax 32 cx, .slice A n c] w (TkS w 0 (issueK y nx l) 32 1 32 0) :=
 (issue_okG Ay Ax A cy cx n c y nx l w hy hx hl hn hry hrx hr).mono fun _ _ h => tkS_of (tkQ_ok h) (pubL_len _) rfl hx rfl
end Go.Proofs.YtnohmgpmmhlloaaGreatDoor

namespace Go.Proofs.YtnohmgpmmhlloaaGreatDoor.S6
set_option maxRecDepth 100000
open Go.RowKit
set_option linter.unusedSimpArgs false
def accL (ps : List (List UInt8)) (k : Nat) : List UInt8 := (List.range k).flatMap fun (i : Nat) => putR ((i : Int) + 1) (ps.getD i [])
theorem accL_succ {ps : List (List UInt8)} {k : Nat} {b : List UInt8} (h : ps[k]? = some b) : accL ps (k + 1) = accL ps k ++ putR ((k : Int) + 1) b := by
 unfold accL
 rw [List.range_succ, List.flatMap_append]
 simp only [List.flatMap_cons, List.flatMap_nil, List.append_nil]
 rw [List.getD_eq_getElem?_getD, h]
 rfl
theorem five_two (a b c d e x y : Chunk) (H : List Chunk) : (a :: b :: c :: d :: e :: x :: y :: H).Perm (x :: y :: a :: b :: c :: d :: e :: H) := List.Perm.append_right H (List.perm_append_comm (l₁ := [a, b, c, d, e]) (l₂ := [x, y]))
theorem putR_le (num : Int) (b : List UInt8) : (putR num b).length ≤ b.length + 20 := by
 unfold putR
 split
 ·rw [List.length_append, List.length_append]
  have h1 := (vb_len (8 * num.toNat + 2)).1
  have h2 := (vb_len b.length).1
  omega
 ·simp
theorem accL_le (ps : List (List UInt8)) (h : ∀ x ∈ ps, x.length ≤ 10000) : ∀ k, (accL ps k).length ≤ k * 10020
 | 0 => by simp [accL]
 | k + 1 => by
  have ih := accL_le ps h k
  unfold accL at ih ⊢
  rw [List.range_succ, List.flatMap_append, List.length_append]
  simp only [List.flatMap_cons, List.flatMap_nil, List.append_nil]
  have h2 := putR_le ((k : Int) + 1) (ps.getD k [])
  have h3 : (ps.getD k []).length ≤ 10000 := by
   rw [List.getD_eq_getElem?_getD]
   cases e : ps[k]? with
   | none => simp
   | some b => exact h b (List.mem_of_getElem? e)
  omega
theorem wblock5 {w0 w : World} {H : List Chunk} (g : Nat) (v : Value) (l : List UInt8) (A1 A2 A3 A4 A5 : Option Addr) (n1 n2 n3 n4 n5 c1 c2 c3 c4 c5 : Nat) (l1 l2 l3 l4 l5 : List UInt8) (hl1 : l1.length = n1) (hn1 : n1 ≤ 10000) (hr1 : Rd w0 (.slice A1 n1 c1) 1 n1 (bvs l1)) (hl2 : l2.length = n2) (hn2 : n2 ≤ 10000) (hr2 : Rd w0 (.slice A2 n2 c2) 1 n2 (bvs l2)) (hl3 : l3.length = n3) (hn3 : n3 ≤ 10000) (hr3 : Rd w0 (.slice A3 n3 c3) 1 n3 (bvs l3)) (hl4 : l4.length = n4) (hn4 : n4 ≤ 10000) (hr4 : Rd w0 (.slice A4 n4 c4) 1 n4 (bvs l4)) (hl5 : l5.length = n5) (hn5 : n5 ≤ 10000) (hr5 : Rd w0 (.slice A5 n5 c5) 1 n5 (bvs l5)) (hne : n4 + n5 ≠ 0) (hl : l.length ≤ 800000) (hS : St w0 NoB w (MsgW g 0 v l H)) :
  Calls Tryz.prog 59 #[.pointer (some ⟨g, 0, none⟩), .agg #[.slice A1 n1 c1, .slice A2 n2 c2, .slice A3 n3 c3, .slice A4 n4 c4, .slice A5 n5 c5]] w fun e w' => e = .returned (.tuple #[]) ∧ ∃ v', St w0 NoB w' (MsgW g 0 v' (l ++ putR 1 (accL [l1, l2, l3, l4, l5] 5)) H) := by
 have HLE := hide (accL_le [l1, l2, l3, l4, l5] (by intro x hx; simp only [List.mem_cons, List.not_mem_nil, or_false] at hx; rcases hx with rfl | rfl | rfl | rfl | rfl <;> omega))
 have HL1 := hide hl1
 have HR1 := hide hr1
 have HL2 := hide hl2
 have HR2 := hide hr2
 have HL3 := hide hl3
 have HR3 := hide hr3
 have HL4 := hide hl4
 have HR4 := hide hr4
 have HL5 := hide hl5
 have HR5 := hide hr5
 clear hl1 hr1 hl2 hr2 hl3 hr3 hl4 hr4 hl5 hr5
 have hS1 := (hS.alloc #[.slice A1 n1 c1, .slice A2 n2 c2, .slice A3 n3 c3, .slice A4 n4 c4, .slice A5 n5 c5] 32).alloc #[.slice none 0 0, .int .i64 0] 84
 rw [size_alloc1] at hS1
 have HS := hide hS1
 have HLL := hide hl
 clear hS1 hS hl
 have t0 : _ = some (Value.slice A1 n1 c1) := HS.out.cell 1 rfl 0
 have t1 : _ = some (Value.slice A2 n2 c2) := HS.out.cell 1 rfl 1
 have t2 : _ = some (Value.slice A3 n3 c3) := HS.out.cell 1 rfl 2
 have t3 : _ = some (Value.slice A4 n4 c4) := HS.out.cell 1 rfl 3
 have t4 : _ = some (Value.slice A5 n5 c5) := HS.out.cell 1 rfl 4
 have d0 : (((n4 : Int) + (n5 : Int)) == 0) = false := by simp; omega
 have d0' : decide ((n4 : Int) + (n5 : Int) = 0) = false := by simp; omega
 go_enter Tryz.func59, Tryz.ntmps59
 go_wp2_with fail
 have hS2 := HS.out.alloc #[.slice A1 n1 c1, .slice A2 n2 c2, .slice A3 n3 c3, .slice A4 n4 c4, .slice A5 n5 c5] 22
 rw [size_alloc1, size_alloc1] at hS2
 generalize w.heap.size + 1 + 1 = gl at *
 generalize hgx : w.heap.size + 1 = gx at *
 have hS3 : St w0 NoB _ (.row (.slice none 0 0) 5 1 0 [] :: .cells gl #[.slice A1 n1 c1, .slice A2 n2 c2, .slice A3 n3 c3, .slice A4 n4 c4, .slice A5 n5 c5] 22 :: .cells gx #[.slice none 0 0, .int .i64 0] 84 :: .cells w.heap.size #[.slice A1 n1 c1, .slice A2 n2 c2, .slice A3 n3 c3, .slice A4 n4 c4, .slice A5 n5 c5] 32 :: MsgW g 0 v l H) := hS2.row (Below.refl _ _) (World.ownsRow_nil _ _ 5 1)
 have HSL : Hid (St w0 NoB _ (MsgW gx 0 (.slice none 0 0) (accL [l1, l2, l3, l4, l5] 0) (.cells gl #[.slice A1 n1 c1, .slice A2 n2 c2, .slice A3 n3 c3, .slice A4 n4 c4, .slice A5 n5 c5] 22 :: .cells w.heap.size #[.slice A1 n1 c1, .slice A2 n2 c2, .slice A3 n3 c3, .slice A4 n4 c4, .slice A5 n5 c5] 32 :: MsgW g 0 v l H))) := hide (hS3.perm ((List.Perm.cons _ (List.Perm.swap _ _ _)).trans (List.Perm.swap _ _ _)))
 clear hS2 hS3 HS t0 t1 t2 t3 t4
 go_loopw [36] (fun i wr => ∃ (k : Nat) (v2 : Value), k ≤ 5 ∧ i = .int .i64 (k : Int) ∧ Hid (St w0 NoB wr (MsgW gx 0 v2 (accL [l1, l2, l3, l4, l5] k) (.cells gl #[.slice A1 n1 c1, .slice A2 n2 c2, .slice A3 n3 c3, .slice A4 n4 c4, .slice A5 n5 c5] 22 :: .cells w.heap.size #[.slice A1 n1 c1, .slice A2 n2 c2, .slice A3 n3 c3, .slice A4 n4 c4, .slice A5 n5 c5] 32 :: MsgW g 0 v l H)))) (fun i _ => (5 - intOf i).toNat)
 case atStart => exact ⟨0, .slice none 0 0, by omega, rfl, HSL⟩
 case round =>
  clear HSL
  obtain ⟨k, v2, hk, rfl, HS⟩ := hrel
  have hle := HLE.out k
  by_cases hlt : k < 5
  ·have d1 : decide ((k : Int) < 5) = true := by simp; omega
   rcases (show k = 0 ∨ k = 1 ∨ k = 2 ∨ k = 3 ∨ k = 4 by omega) with rfl | rfl | rfl | rfl | rfl
   ·have ck0 : wr.cell? ⟨gl, 0, none⟩ = some (.slice A1 n1 c1) := HS.out.cell 2 rfl 0
    have HW := hide (fun v2 (hS : St w0 NoB wr (MsgW gx 0 v2 (accL [l1, l2, l3, l4, l5] 0) (.cells gl #[.slice A1 n1 c1, .slice A2 n2 c2, .slice A3 n3 c3, .slice A4 n4 c4, .slice A5 n5 c5] 22 :: .cells w.heap.size #[.slice A1 n1 c1, .slice A2 n2 c2, .slice A3 n3 c3, .slice A4 n4 c4, .slice A5 n5 c5] 32 :: MsgW g 0 v l H))) => wraw_any gx 0 v2 (accL [l1, l2, l3, l4, l5] 0) 1 A1 c1 l1 (by omega) (by rw [HL1.out]; omega) (fun W hW => (by rw [HL1.out]; exact HR1.out.below hW.below)) hS)
    rw [HL1.out] at HW
    go_wp2_with (go_at_call 110; (with_reducible refine (HW.out v2 HS.out).mono ?_); rintro e w2 ⟨rfl, v3, hS3⟩; have HS3 := hide hS3; clear hS3)
    go_roundw
    case rel => exact ⟨1, v3, by omega, rfl, hide (by rw [show accL [l1, l2, l3, l4, l5] 1 = accL [l1, l2, l3, l4, l5] 0 ++ putR 1 l1 from accL_succ (k := 0) rfl]; exact HS3.out)⟩
    case measure => (simp [intOf]) <;> omega
   ·have ck1 : wr.cell? ⟨gl, 1, none⟩ = some (.slice A2 n2 c2) := HS.out.cell 2 rfl 1
    have HW := hide (fun v2 (hS : St w0 NoB wr (MsgW gx 0 v2 (accL [l1, l2, l3, l4, l5] 1) (.cells gl #[.slice A1 n1 c1, .slice A2 n2 c2, .slice A3 n3 c3, .slice A4 n4 c4, .slice A5 n5 c5] 22 :: .cells w.heap.size #[.slice A1 n1 c1, .slice A2 n2 c2, .slice A3 n3 c3, .slice A4 n4 c4, .slice A5 n5 c5] 32 :: MsgW g 0 v l H))) => wraw_any gx 0 v2 (accL [l1, l2, l3, l4, l5] 1) 2 A2 c2 l2 (by omega) (by rw [HL2.out]; omega) (fun W hW => (by rw [HL2.out]; exact HR2.out.below hW.below)) hS)
    rw [HL2.out] at HW
    go_wp2_with (go_at_call 110; (with_reducible refine (HW.out v2 HS.out).mono ?_); rintro e w2 ⟨rfl, v3, hS3⟩; have HS3 := hide hS3; clear hS3)
    go_roundw
    case rel => exact ⟨2, v3, by omega, rfl, hide (by rw [show accL [l1, l2, l3, l4, l5] 2 = accL [l1, l2, l3, l4, l5] 1 ++ putR 2 l2 from accL_succ (k := 1) rfl]; exact HS3.out)⟩
    case measure => (simp [intOf]) <;> omega
   ·have ck2 : wr.cell? ⟨gl, 2, none⟩ = some (.slice A3 n3 c3) := HS.out.cell 2 rfl 2
    have HW := hide (fun v2 (hS : St w0 NoB wr (MsgW gx 0 v2 (accL [l1, l2, l3, l4, l5] 2) (.cells gl #[.slice A1 n1 c1, .slice A2 n2 c2, .slice A3 n3 c3, .slice A4 n4 c4, .slice A5 n5 c5] 22 :: .cells w.heap.size #[.slice A1 n1 c1, .slice A2 n2 c2, .slice A3 n3 c3, .slice A4 n4 c4, .slice A5 n5 c5] 32 :: MsgW g 0 v l H))) => wraw_any gx 0 v2 (accL [l1, l2, l3, l4, l5] 2) 3 A3 c3 l3 (by omega) (by rw [HL3.out]; omega) (fun W hW => (by rw [HL3.out]; exact HR3.out.below hW.below)) hS)
    rw [HL3.out] at HW
    go_wp2_with (go_at_call 110; (with_reducible refine (HW.out v2 HS.out).mono ?_); rintro e w2 ⟨rfl, v3, hS3⟩; have HS3 := hide hS3; clear hS3)
    go_roundw
    case rel => exact ⟨3, v3, by omega, rfl, hide (by rw [show accL [l1, l2, l3, l4, l5] 3 = accL [l1, l2, l3, l4, l5] 2 ++ putR 3 l3 from accL_succ (k := 2) rfl]; exact HS3.out)⟩
    case measure => (simp [intOf]) <;> omega
   ·have ck3 : wr.cell? ⟨gl, 3, none⟩ = some (.slice A4 n4 c4) := HS.out.cell 2 rfl 3
    have HW := hide (fun v2 (hS : St w0 NoB wr (MsgW gx 0 v2 (accL [l1, l2, l3, l4, l5] 3) (.cells gl #[.slice A1 n1 c1, .slice A2 n2 c2, .slice A3 n3 c3, .slice A4 n4 c4, .slice A5 n5 c5] 22 :: .cells w.heap.size #[.slice A1 n1 c1, .slice A2 n2 c2, .slice A3 n3 c3, .slice A4 n4 c4, .slice A5 n5 c5] 32 :: MsgW g 0 v l H))) => wraw_any gx 0 v2 (accL [l1, l2, l3, l4, l5] 3) 4 A4 c4 l4 (by omega) (by rw [HL4.out]; omega) (fun W hW => (by rw [HL4.out]; exact HR4.out.below hW.below)) hS)
    rw [HL4.out] at HW
    go_wp2_with (go_at_call 110; (with_reducible refine (HW.out v2 HS.out).mono ?_); rintro e w2 ⟨rfl, v3, hS3⟩; have HS3 := hide hS3; clear hS3)
    go_roundw
    case rel => exact ⟨4, v3, by omega, rfl, hide (by rw [show accL [l1, l2, l3, l4, l5] 4 = accL [l1, l2, l3, l4, l5] 3 ++ putR 4 l4 from accL_succ (k := 3) rfl]; exact HS3.out)⟩
    case measure => (simp [intOf]) <;> omega
   ·have ck4 : wr.cell? ⟨gl, 4, none⟩ = some (.slice A5 n5 c5) := HS.out.cell 2 rfl 4
    have HW := hide (fun v2 (hS : St w0 NoB wr (MsgW gx 0 v2 (accL [l1, l2, l3, l4, l5] 4) (.cells gl #[.slice A1 n1 c1, .slice A2 n2 c2, .slice A3 n3 c3, .slice A4 n4 c4, .slice A5 n5 c5] 22 :: .cells w.heap.size #[.slice A1 n1 c1, .slice A2 n2 c2, .slice A3 n3 c3, .slice A4 n4 c4, .slice A5 n5 c5] 32 :: MsgW g 0 v l H))) => wraw_any gx 0 v2 (accL [l1, l2, l3, l4, l5] 4) 5 A5 c5 l5 (by omega) (by rw [HL5.out]; omega) (fun W hW => (by rw [HL5.out]; exact HR5.out.below hW.below)) hS)
    rw [HL5.out] at HW
    go_wp2_with (go_at_call 110; (with_reducible refine (HW.out v2 HS.out).mono ?_); rintro e w2 ⟨rfl, v3, hS3⟩; have HS3 := hide hS3; clear hS3)
    go_roundw
    case rel => exact ⟨5, v3, by omega, rfl, hide (by rw [show accL [l1, l2, l3, l4, l5] 5 = accL [l1, l2, l3, l4, l5] 4 ++ putR 5 l5 from accL_succ (k := 4) rfl]; exact HS3.out)⟩
    case measure => (simp [intOf]) <;> omega
  ·obtain rfl : k = 5 := by omega
   have d1 : decide (((5 : Nat) : Int) < 5) = false := rfl
   have xg : wr.cell? ⟨g, 1, none⟩ = some (.int .i64 0) := HS.out.cell 4 rfl 1
   have xf := HS.out.free 4 rfl 1
   have xx : wr.cell? ⟨gx, 1, none⟩ = some (.int .i64 0) := HS.out.cell 0 rfl 1
   go_upto_region 11 with fail
   refine wp_region_T [(0, 1), (1, 1), (2, 1), (3, 0), (4, 1), (5, 1), (6, 1), (7, 0), (8, 1), (9, 1), (10, 1), (11, 3)] (by kernel_rfl) (by kernel_rfl) (fun _ _ _ _ h => h) ?_
   go_upto_region 12 with (first | (refine wpT_nil ?_)   | ((with_reducible refine fromT_refl ?_); (try simp only [Act.put, nq1, nq2, nq3, nq4, nq5, nq6]))   | ((with_reducible refine fromT_mk (by assumption) ?_); (try simp only [Act.put, nq1, nq2, nq3, nq4, nq5, nq6]))   | (refine wpT_pure (v := ?_) rfl rfl ?_ ?_; rotate_left; (intro wx; go_simp; try go_bits) <;> (with_reducible rfl); (try simp only [Act.put, nq1, nq2, nq3, nq4, nq5, nq6]))   | (refine wpT_load (v := ?_) rfl rfl rfl ?_ ?_; rotate_left; (go_simp; try go_bits) <;> (with_reducible rfl); (try simp only [Act.put, nq1, nq2, nq3, nq4, nq5, nq6]))   | (refine wpT_read (v := ?_) rfl rfl ?_ ?_; rotate_left; (intro wx hx; go_simp; try go_bits) <;> (with_reducible rfl); (try simp only [Act.put, nq1, nq2, nq3, nq4, nq5, nq6]))   | (refine wpT_call rfl rfl ?_; intro K hK)   | (refine wpT_late rfl rfl ?_; intro K hK)   | (refine wpT_any rfl rfl ?_; intro K hK)   | (refine wpT_skip rfl rfl ?_; (try simp only [Act.put, nq1, nq2, nq3, nq4, nq5, nq6])))
   have h4 : St w0 NoB _ (.cells gx #[v2, .int .i64 0] 84 :: .row v2 5 1 (accL [l1, l2, l3, l4, l5] 5).length (bvs (accL [l1, l2, l3, l4, l5] 5)) :: .cells gl #[.slice A1 n1 c1, .slice A2 n2 c2, .slice A3 n3 c3, .slice A4 n4 c4, .slice A5 n5 c5] 22 :: .cells w.heap.size #[.slice A1 n1 c1, .slice A2 n2 c2, .slice A3 n3 c3, .slice A4 n4 c4, .slice A5 n5 c5] 32 :: .cells g #[v, .int .i64 0] 84 :: .row v 5 1 l.length (bvs l) :: H) := (HS.out.setCell 4 rfl 1 (.int .i64 0)).drew
   have HS4 := hide h4
   have hln := HLE.out 5
   have hll := HLL.out
   clear h4 xg xf xx HS
   generalize (wr.setCell ⟨g, 1, none⟩ (.int .i64 0)).drew = w4 at HS4 ⊢
   generalize hacc : accL [l1, l2, l3, l4, l5] 5 = acc at HS4 hln ⊢
   have HAC := hide hacc
   clear hacc
   have HBY := hide (bytes_any gx v2 acc (by omega) (HS4.out.cell 0 rfl 0) (HS4.out.rd 1 rfl))
   go_wp2_with (first
    | (go_at_call 61; go_loud ((with_reducible refine HBY.out.mono ?_); rintro e w5 ⟨A6, c6, rfl, hb, ho⟩; have hS5 := HS4.out.row hb ho; have hS6 : St w0 NoB w5 (MsgW g 0 v l ([.row (.slice A6 acc.length c6) 5 1 acc.length (bvs acc), .cells gx #[v2, .int .i64 0] 84, .row v2 5 1 acc.length (bvs acc), .cells gl #[.slice A1 n1 c1, .slice A2 n2 c2, .slice A3 n3 c3, .slice A4 n4 c4, .slice A5 n5 c5] 22, .cells w.heap.size #[.slice A1 n1 c1, .slice A2 n2 c2, .slice A3 n3 c3, .slice A4 n4 c4, .slice A5 n5 c5] 32] ++ H)) := hS5.perm (five_two _ _ _ _ _ _ _ _); have HRW := hide (wraw_any g 0 v l 1 A6 c6 acc (by omega) (by omega) (fun W hW => hW.rd 0 rfl) hS6); clear hS5 hS6 hb ho))
    | (go_at_call 110; (with_reducible refine HRW.out.mono ?_); rintro e w7 ⟨rfl, v7, hS7⟩; have HS7 := hide hS7; clear hS7))
   go_end0
   refine ⟨rfl, v7, ?_⟩
   have h8 : St w0 NoB w7 (.cells g #[v7, .int .i64 0] 84 :: .row v7 5 1 (l ++ putR 1 acc).length (bvs (l ++ putR 1 acc)) :: .row (.slice A6 acc.length c6) 5 1 acc.length (bvs acc) :: .cells gx #[v2, .int .i64 0] 84 :: .row v2 5 1 acc.length (bvs acc) :: .cells gl #[.slice A1 n1 c1, .slice A2 n2 c2, .slice A3 n3 c3, .slice A4 n4 c4, .slice A5 n5 c5] 22 :: .cells w.heap.size #[.slice A1 n1 c1, .slice A2 n2 c2, .slice A3 n3 c3, .slice A4 n4 c4, .slice A5 n5 c5] 32 :: H) := HS7.out
   rw [HAC.out]
   exact (h8.perm (five_two _ _ _ _ _ _ _ _).symm).tail.tail.tail.tail.tail
theorem wblock3 {w0 w : World} {H : List Chunk} (g : Nat) (v : Value) (l : List UInt8) (A1 A2 A3 A4 A5 : Option Addr) (n1 n2 n3 c1 c2 c3 c4 c5 : Nat) (l1 l2 l3 l4 l5 : List UInt8) (hl1 : l1.length = n1) (hn1 : n1 ≤ 10000) (hr1 : Rd w0 (.slice A1 n1 c1) 1 n1 (bvs l1)) (hl2 : l2.length = n2) (hn2 : n2 ≤ 10000) (hr2 : Rd w0 (.slice A2 n2 c2) 1 n2 (bvs l2)) (hl3 : l3.length = n3) (hn3 : n3 ≤ 10000) (hr3 : Rd w0 (.slice A3 n3 c3) 1 n3 (bvs l3)) (hl4 : l4.length = 0) (hn4 : 0 ≤ 10000) (hr4 : Rd w0 (.slice A4 0 c4) 1 0 (bvs l4)) (hl5 : l5.length = 0) (hn5 : 0 ≤ 10000) (hr5 : Rd w0 (.slice A5 0 c5) 1 0 (bvs l5))  (hl : l.length ≤ 800000) (hS : St w0 NoB w (MsgW g 0 v l H)) :
  Calls Tryz.prog 59 #[.pointer (some ⟨g, 0, none⟩), .agg #[.slice A1 n1 c1, .slice A2 n2 c2, .slice A3 n3 c3, .slice A4 0 c4, .slice A5 0 c5]] w fun e w' => e = .returned (.tuple #[]) ∧ ∃ v', St w0 NoB w' (MsgW g 0 v' (l ++ putR 1 (accL [l1, l2, l3] 3)) H) := by
 have HLE := hide (accL_le [l1, l2, l3] (by intro x hx; simp only [List.mem_cons, List.not_mem_nil, or_false] at hx; rcases hx with rfl | rfl | rfl <;> omega))
 have HL1 := hide hl1
 have HR1 := hide hr1
 have HL2 := hide hl2
 have HR2 := hide hr2
 have HL3 := hide hl3
 have HR3 := hide hr3
 have HL4 := hide hl4
 have HR4 := hide hr4
 have HL5 := hide hl5
 have HR5 := hide hr5
 clear hl1 hr1 hl2 hr2 hl3 hr3 hl4 hr4 hl5 hr5
 have hS1 := (hS.alloc #[.slice A1 n1 c1, .slice A2 n2 c2, .slice A3 n3 c3, .slice A4 0 c4, .slice A5 0 c5] 32).alloc #[.slice none 0 0, .int .i64 0] 84
 rw [size_alloc1] at hS1
 have HS := hide hS1
 have HLL := hide hl
 clear hS1 hS hl
 have t0 : _ = some (Value.slice A1 n1 c1) := HS.out.cell 1 rfl 0
 have t1 : _ = some (Value.slice A2 n2 c2) := HS.out.cell 1 rfl 1
 have t2 : _ = some (Value.slice A3 n3 c3) := HS.out.cell 1 rfl 2
 have t3 : _ = some (Value.slice A4 0 c4) := HS.out.cell 1 rfl 3
 have t4 : _ = some (Value.slice A5 0 c5) := HS.out.cell 1 rfl 4
 go_enter Tryz.func59, Tryz.ntmps59
 go_wp2_with fail
 have hS2 := HS.out.alloc #[.slice A1 n1 c1, .slice A2 n2 c2, .slice A3 n3 c3, .slice A4 0 c4, .slice A5 0 c5] 22
 rw [size_alloc1, size_alloc1] at hS2
 generalize w.heap.size + 1 + 1 = gl at *
 generalize hgx : w.heap.size + 1 = gx at *
 have hS3 : St w0 NoB _ (.row (.slice none 0 0) 5 1 0 [] :: .cells gl #[.slice A1 n1 c1, .slice A2 n2 c2, .slice A3 n3 c3, .slice A4 0 c4, .slice A5 0 c5] 22 :: .cells gx #[.slice none 0 0, .int .i64 0] 84 :: .cells w.heap.size #[.slice A1 n1 c1, .slice A2 n2 c2, .slice A3 n3 c3, .slice A4 0 c4, .slice A5 0 c5] 32 :: MsgW g 0 v l H) := hS2.row (Below.refl _ _) (World.ownsRow_nil _ _ 5 1)
 have HSL : Hid (St w0 NoB _ (MsgW gx 0 (.slice none 0 0) (accL [l1, l2, l3] 0) (.cells gl #[.slice A1 n1 c1, .slice A2 n2 c2, .slice A3 n3 c3, .slice A4 0 c4, .slice A5 0 c5] 22 :: .cells w.heap.size #[.slice A1 n1 c1, .slice A2 n2 c2, .slice A3 n3 c3, .slice A4 0 c4, .slice A5 0 c5] 32 :: MsgW g 0 v l H))) := hide (hS3.perm ((List.Perm.cons _ (List.Perm.swap _ _ _)).trans (List.Perm.swap _ _ _)))
 clear hS2 hS3 HS t0 t1 t2 t3 t4
 go_loopw [36] (fun i wr => ∃ (k : Nat) (v2 : Value), k ≤ 3 ∧ i = .int .i64 (k : Int) ∧ Hid (St w0 NoB wr (MsgW gx 0 v2 (accL [l1, l2, l3] k) (.cells gl #[.slice A1 n1 c1, .slice A2 n2 c2, .slice A3 n3 c3, .slice A4 0 c4, .slice A5 0 c5] 22 :: .cells w.heap.size #[.slice A1 n1 c1, .slice A2 n2 c2, .slice A3 n3 c3, .slice A4 0 c4, .slice A5 0 c5] 32 :: MsgW g 0 v l H)))) (fun i _ => (3 - intOf i).toNat)
 case atStart => exact ⟨0, .slice none 0 0, by omega, rfl, HSL⟩
 case round =>
  clear HSL
  obtain ⟨k, v2, hk, rfl, HS⟩ := hrel
  have hle := HLE.out k
  by_cases hlt : k < 3
  ·have d1 : decide ((k : Int) < 3) = true := by simp; omega
   rcases (show k = 0 ∨ k = 1 ∨ k = 2 by omega) with rfl | rfl | rfl
   ·have ck0 : wr.cell? ⟨gl, 0, none⟩ = some (.slice A1 n1 c1) := HS.out.cell 2 rfl 0
    have HW := hide (fun v2 (hS : St w0 NoB wr (MsgW gx 0 v2 (accL [l1, l2, l3] 0) (.cells gl #[.slice A1 n1 c1, .slice A2 n2 c2, .slice A3 n3 c3, .slice A4 0 c4, .slice A5 0 c5] 22 :: .cells w.heap.size #[.slice A1 n1 c1, .slice A2 n2 c2, .slice A3 n3 c3, .slice A4 0 c4, .slice A5 0 c5] 32 :: MsgW g 0 v l H))) => wraw_any gx 0 v2 (accL [l1, l2, l3] 0) 1 A1 c1 l1 (by omega) (by rw [HL1.out]; omega) (fun W hW => (by rw [HL1.out]; exact HR1.out.below hW.below)) hS)
    rw [HL1.out] at HW
    go_wp2_with (go_at_call 110; (with_reducible refine (HW.out v2 HS.out).mono ?_); rintro e w2 ⟨rfl, v3, hS3⟩; have HS3 := hide hS3; clear hS3)
    go_roundw
    case rel => exact ⟨1, v3, by omega, rfl, hide (by rw [show accL [l1, l2, l3] 1 = accL [l1, l2, l3] 0 ++ putR 1 l1 from accL_succ (k := 0) rfl]; exact HS3.out)⟩
    case measure => (simp [intOf]) <;> omega
   ·have ck1 : wr.cell? ⟨gl, 1, none⟩ = some (.slice A2 n2 c2) := HS.out.cell 2 rfl 1
    have HW := hide (fun v2 (hS : St w0 NoB wr (MsgW gx 0 v2 (accL [l1, l2, l3] 1) (.cells gl #[.slice A1 n1 c1, .slice A2 n2 c2, .slice A3 n3 c3, .slice A4 0 c4, .slice A5 0 c5] 22 :: .cells w.heap.size #[.slice A1 n1 c1, .slice A2 n2 c2, .slice A3 n3 c3, .slice A4 0 c4, .slice A5 0 c5] 32 :: MsgW g 0 v l H))) => wraw_any gx 0 v2 (accL [l1, l2, l3] 1) 2 A2 c2 l2 (by omega) (by rw [HL2.out]; omega) (fun W hW => (by rw [HL2.out]; exact HR2.out.below hW.below)) hS)
    rw [HL2.out] at HW
    go_wp2_with (go_at_call 110; (with_reducible refine (HW.out v2 HS.out).mono ?_); rintro e w2 ⟨rfl, v3, hS3⟩; have HS3 := hide hS3; clear hS3)
    go_roundw
    case rel => exact ⟨2, v3, by omega, rfl, hide (by rw [show accL [l1, l2, l3] 2 = accL [l1, l2, l3] 1 ++ putR 2 l2 from accL_succ (k := 1) rfl]; exact HS3.out)⟩
    case measure => (simp [intOf]) <;> omega
   ·have ck2 : wr.cell? ⟨gl, 2, none⟩ = some (.slice A3 n3 c3) := HS.out.cell 2 rfl 2
    have HW := hide (fun v2 (hS : St w0 NoB wr (MsgW gx 0 v2 (accL [l1, l2, l3] 2) (.cells gl #[.slice A1 n1 c1, .slice A2 n2 c2, .slice A3 n3 c3, .slice A4 0 c4, .slice A5 0 c5] 22 :: .cells w.heap.size #[.slice A1 n1 c1, .slice A2 n2 c2, .slice A3 n3 c3, .slice A4 0 c4, .slice A5 0 c5] 32 :: MsgW g 0 v l H))) => wraw_any gx 0 v2 (accL [l1, l2, l3] 2) 3 A3 c3 l3 (by omega) (by rw [HL3.out]; omega) (fun W hW => (by rw [HL3.out]; exact HR3.out.below hW.below)) hS)
    rw [HL3.out] at HW
    go_wp2_with (go_at_call 110; (with_reducible refine (HW.out v2 HS.out).mono ?_); rintro e w2 ⟨rfl, v3, hS3⟩; have HS3 := hide hS3; clear hS3)
    go_roundw
    case rel => exact ⟨3, v3, by omega, rfl, hide (by rw [show accL [l1, l2, l3] 3 = accL [l1, l2, l3] 2 ++ putR 3 l3 from accL_succ (k := 2) rfl]; exact HS3.out)⟩
    case measure => (simp [intOf]) <;> omega
  ·obtain rfl : k = 3 := by omega
   have d1 : decide (((3 : Nat) : Int) < 3) = false := rfl
   have xg : wr.cell? ⟨g, 1, none⟩ = some (.int .i64 0) := HS.out.cell 4 rfl 1
   have xf := HS.out.free 4 rfl 1
   have xx : wr.cell? ⟨gx, 1, none⟩ = some (.int .i64 0) := HS.out.cell 0 rfl 1
   go_upto_region 11 with fail
   refine wp_region_T [(0, 1), (1, 1), (2, 1), (3, 0), (4, 1), (5, 1), (6, 1), (7, 0), (8, 1), (9, 1), (10, 1), (11, 3)] (by kernel_rfl) (by kernel_rfl) (fun _ _ _ _ h => h) ?_
   go_upto_region 12 with (first | (refine wpT_nil ?_)   | ((with_reducible refine fromT_refl ?_); (try simp only [Act.put, nq1, nq2, nq3, nq4, nq5, nq6]))   | ((with_reducible refine fromT_mk (by assumption) ?_); (try simp only [Act.put, nq1, nq2, nq3, nq4, nq5, nq6]))   | (refine wpT_pure (v := ?_) rfl rfl ?_ ?_; rotate_left; (intro wx; go_simp; try go_bits) <;> (with_reducible rfl); (try simp only [Act.put, nq1, nq2, nq3, nq4, nq5, nq6]))   | (refine wpT_load (v := ?_) rfl rfl rfl ?_ ?_; rotate_left; (go_simp; try go_bits) <;> (with_reducible rfl); (try simp only [Act.put, nq1, nq2, nq3, nq4, nq5, nq6]))   | (refine wpT_read (v := ?_) rfl rfl ?_ ?_; rotate_left; (intro wx hx; go_simp; try go_bits) <;> (with_reducible rfl); (try simp only [Act.put, nq1, nq2, nq3, nq4, nq5, nq6]))   | (refine wpT_call rfl rfl ?_; intro K hK)   | (refine wpT_late rfl rfl ?_; intro K hK)   | (refine wpT_any rfl rfl ?_; intro K hK)   | (refine wpT_skip rfl rfl ?_; (try simp only [Act.put, nq1, nq2, nq3, nq4, nq5, nq6])))
   have h4 : St w0 NoB _ (.cells gx #[v2, .int .i64 0] 84 :: .row v2 5 1 (accL [l1, l2, l3] 3).length (bvs (accL [l1, l2, l3] 3)) :: .cells gl #[.slice A1 n1 c1, .slice A2 n2 c2, .slice A3 n3 c3, .slice A4 0 c4, .slice A5 0 c5] 22 :: .cells w.heap.size #[.slice A1 n1 c1, .slice A2 n2 c2, .slice A3 n3 c3, .slice A4 0 c4, .slice A5 0 c5] 32 :: .cells g #[v, .int .i64 0] 84 :: .row v 5 1 l.length (bvs l) :: H) := (HS.out.setCell 4 rfl 1 (.int .i64 0)).drew
   have HS4 := hide h4
   have hln := HLE.out 3
   have hll := HLL.out
   clear h4 xg xf xx HS
   generalize (wr.setCell ⟨g, 1, none⟩ (.int .i64 0)).drew = w4 at HS4 ⊢
   generalize hacc : accL [l1, l2, l3] 3 = acc at HS4 hln ⊢
   have HAC := hide hacc
   clear hacc
   have HBY := hide (bytes_any gx v2 acc (by omega) (HS4.out.cell 0 rfl 0) (HS4.out.rd 1 rfl))
   go_wp2_with (first
    | (go_at_call 61; go_loud ((with_reducible refine HBY.out.mono ?_); rintro e w5 ⟨A6, c6, rfl, hb, ho⟩; have hS5 := HS4.out.row hb ho; have hS6 : St w0 NoB w5 (MsgW g 0 v l ([.row (.slice A6 acc.length c6) 5 1 acc.length (bvs acc), .cells gx #[v2, .int .i64 0] 84, .row v2 5 1 acc.length (bvs acc), .cells gl #[.slice A1 n1 c1, .slice A2 n2 c2, .slice A3 n3 c3, .slice A4 0 c4, .slice A5 0 c5] 22, .cells w.heap.size #[.slice A1 n1 c1, .slice A2 n2 c2, .slice A3 n3 c3, .slice A4 0 c4, .slice A5 0 c5] 32] ++ H)) := hS5.perm (five_two _ _ _ _ _ _ _ _); have HRW := hide (wraw_any g 0 v l 1 A6 c6 acc (by omega) (by omega) (fun W hW => hW.rd 0 rfl) hS6); clear hS5 hS6 hb ho))
    | (go_at_call 110; (with_reducible refine HRW.out.mono ?_); rintro e w7 ⟨rfl, v7, hS7⟩; have HS7 := hide hS7; clear hS7))
   go_end0
   refine ⟨rfl, v7, ?_⟩
   have h8 : St w0 NoB w7 (.cells g #[v7, .int .i64 0] 84 :: .row v7 5 1 (l ++ putR 1 acc).length (bvs (l ++ putR 1 acc)) :: .row (.slice A6 acc.length c6) 5 1 acc.length (bvs acc) :: .cells gx #[v2, .int .i64 0] 84 :: .row v2 5 1 acc.length (bvs acc) :: .cells gl #[.slice A1 n1 c1, .slice A2 n2 c2, .slice A3 n3 c3, .slice A4 0 c4, .slice A5 0 c5] 22 :: .cells w.heap.size #[.slice A1 n1 c1, .slice A2 n2 c2, .slice A3 n3 c3, .slice A4 0 c4, .slice A5 0 c5] 32 :: H) := HS7.out
   rw [HAC.out]
   exact (h8.perm (five_two _ _ _ _ _ _ _ _).symm).tail.tail.tail.tail.tail
end Go.Proofs.YtnohmgpmmhlloaaGreatDoor.S6

namespace Go.Proofs.YtnohmgpmmhlloaaGreatDoor
open Go.RowKit
set_option linter.unusedSimpArgs false
theorem max5 (P : Program) (a b c d e : Int) (m : Int) (h1 : a ≤ m) (h2 : b ≤ m) (h3 : c ≤ m) (h4 : d ≤ m) (h5 : e ≤ m) : ∃ z, z ≤ m ∧ ∀ (ts : Array TypeId) (t : TypeId) (w : World), (Builtin.max_ ts t #[.int .i64 a, .int .i64 b, .int .i64 c, .int .i64 d, .int .i64 e]).run P w = .ok (.int .i64 z) w := by
 refine ⟨_, ?_, fun ts t w => by simp [Builtin.max_, Builtin.max2]; rfl⟩
 repeat' split
 all_goals omega
theorem long_core (A1 A2 A3 A4 A5 : Option Addr) (n1 n2 n3 n4 n5 c1 c2 c3 c4 c5 : Nat) (h1 : n1 ≤ 65536) (h2 : n2 ≤ 65536) (h3 : n3 ≤ 65536) (h4 : n4 ≤ 65536) (h5 : n5 ≤ 65536) (w : World) :
  Calls Tryz.prog 58 #[.agg #[.slice A1 n1 c1, .slice A2 n2 c2, .slice A3 n3 c3, .slice A4 n4 c4, .slice A5 n5 c5]] w fun e w' => e = .returned (.bool false) ∧ Below w.heap.size w w' := by
 have HS := hide ((St.init w NoB).alloc #[.slice A1 n1 c1, .slice A2 n2 c2, .slice A3 n3 c3, .slice A4 n4 c4, .slice A5 n5 c5] 32)
 have t1 : _ = some (Value.slice A1 n1 c1) := HS.out.cell 0 rfl 0
 have t2 : _ = some (Value.slice A2 n2 c2) := HS.out.cell 0 rfl 1
 have t3 : _ = some (Value.slice A3 n3 c3) := HS.out.cell 0 rfl 2
 have t4 : _ = some (Value.slice A4 n4 c4) := HS.out.cell 0 rfl 3
 have t5 : _ = some (Value.slice A5 n5 c5) := HS.out.cell 0 rfl 4
 go_enter Tryz.func58, Tryz.ntmps58
 obtain ⟨z, hz, mx⟩ := max5 Tryz.prog n1 n2 n3 n4 n5 65536 (by omega) (by omega) (by omega) (by omega) (by omega)
 have dz : decide ((65536 : Int) < z) = false := by simp; omega
 go_wp2_with fail
 go_ret
 exact ⟨rfl, HS.out.below⟩
theorem Rd.isSlice {w : World} {v : Value} {size n : Nat} {xs : List Value} (h : Rd w v size n xs) : ∃ A c, v = .slice A n c ∧ Rd w (.slice A n c) size n xs := by
 obtain ⟨A, c, rfl, h2⟩ := id h
 exact ⟨A, c, rfl, h⟩
def CloS (f : FuncId) (cap : Array Value) (w : World) (g : Sg → Bool) (xs : List Sg) : Prop :=
 ∀ w', Below w.heap.size w w' → ∀ x ∈ xs, Calls Tryz.prog f (#[x.val] ++ cap) w' fun e w'' => e = .returned (.bool (g x)) ∧ Below w'.heap.size w' w''
def sIdx (g : Sg → Bool) : List Sg → Int → Int
 | [], _ => -1
 | x :: l, k => if g x = true then k else sIdx g l (k + 1)
theorem sIdx_any (g : Sg → Bool) : ∀ (l : List Sg) (k : Int), 0 ≤ k → decide (0 ≤ sIdx g l k) = l.any g
 | [], k, _ => by simp [sIdx]
 | x :: l, k, hk => by
  rw [sIdx, List.any_cons]
  by_cases h : g x = true
  ·rw [if_pos h, h]
   simp [hk]
  ·rw [if_neg h, sIdx_any g l (k + 1) (by omega)]
   simp [h]
theorem idxS_any (f : FuncId) (hen : ∀ (args : Array Value) (w : World), (callFunc f args).run Tryz.prog w = .ok (.enter f args) w) (cap : Array Value) (g : Sg → Bool) (va : Value) (xs : List Sg) (w : World) (ha : Rd w va 5 xs.length (sgCells xs)) (hm : xs.length ≤ 140737488351232) (hf : CloS f cap w g xs) :
  Calls Tryz.prog 109 #[va, .func (.func f) #[] cap] w fun e w' => e = .returned (.int .i64 (sIdx g xs 0)) ∧ Below w.heap.size w w' := by
 obtain ⟨A, c, rfl, hra⟩ := Rd.isSlice ha
 have HA := hide hra
 have HF := hide hf
 clear ha hf hra
 obtain ⟨n, hn⟩ : ∃ n, n = xs.length := ⟨_, rfl⟩
 rw [← hn] at HA hm ⊢
 have HN := hide hn
 clear hn
 go_enter Tryz.func109, Tryz.ntmps109
 go_wp2_with fail
 go_loopw [8] (fun i wr => ∃ k : Nat, k ≤ n ∧ i = .int .i64 (k : Int) ∧ Hid (sIdx g (xs.drop k) (k : Int) = sIdx g xs 0) ∧ Hid (Below w.heap.size w wr)) (fun i _ => (n - intOf i).toNat)
 case atStart => exact ⟨0, by omega, rfl, rfl, Below.refl _ _⟩
 case round =>
  obtain ⟨k, hk, rfl, HS, HW⟩ := hrel
  by_cases hlt : k < n
  ·have hd : decide ((k : Int) < (n : Int)) = true := by simp; omega
   have k1 : k < xs.length := by have := HN.out; omega
   obtain ⟨b, o, rfl, hb8, hc⟩ := sg_at HA.out (List.getElem?_eq_getElem k1)
   obtain ⟨c0, c1, c2, c3, c4⟩ := hc _ HW.out
   have hs := HS.out
   rw [List.drop_eq_getElem_cons k1, sIdx] at hs
   have HX := hide hs
   have HC := hide (fun w' hw => HF.out w' hw xs[k] (List.getElem_mem k1))
   clear hs hc
   generalize xs[k] = x at c0 c1 c2 c3 c4 HX HC
   obtain ⟨z, hz⟩ : ∃ z, z = g x := ⟨_, rfl⟩
   rw [← hz] at HX HC
   have HL := hide hlt
   clear k1 hz
   unfold Sg.val PcV.v at HC
   cases z
   ·have HX2 : Hid (sIdx g (xs.drop (k + 1)) ((k + 1 : Nat) : Int) = sIdx g xs 0) := by
     have := HX.out
     rw [if_neg Bool.false_ne_true] at this
     rw [show ((k + 1 : Nat) : Int) = (k : Int) + 1 by omega]
     exact this
    go_wp2_with (refine (HC.out _ HW.out).mono ?_; rintro e w' ⟨rfl, hb⟩; have HW2 := hide (HW.out.trans (hb.mono HW.out.size)); clear hb)
    go_roundw
    case rel => exact ⟨k + 1, by have := HL.out; omega, by go_num, HX2, HW2⟩
    case measure => (have := HL.out); (simp [intOf]) <;> omega
   ·have HX2 : Hid ((k : Int) = sIdx g xs 0) := by
     have := HX.out
     rw [if_pos rfl] at this
     exact this
    go_wp2_with (refine (HC.out _ HW.out).mono ?_; rintro e w' ⟨rfl, hb⟩; have HW2 := hide (HW.out.trans (hb.mono HW.out.size)); clear hb)
    go_ret
    rw [← HX2.out]
    exact ⟨rfl, HW2.out⟩
  ·have hd : decide ((k : Int) < (n : Int)) = false := by simp; omega
   have hx : sIdx g xs 0 = -1 := by
    rw [← HS.out, List.drop_of_length_le (by have := HN.out; omega)]
    rfl
   have HX := hide hx
   clear hx
   go_wp2_with fail
   go_ret
   rw [HX.out]
   exact ⟨rfl, HW.out⟩
theorem contS_any (f : FuncId) (hen : ∀ (args : Array Value) (w : World), (callFunc f args).run Tryz.prog w = .ok (.enter f args) w) (cap : Array Value) (g : Sg → Bool) (va : Value) (xs : List Sg) (w : World) (ha : Rd w va 5 xs.length (sgCells xs)) (hm : xs.length ≤ 140737488351232) (hf : CloS f cap w g xs) :
  Calls Tryz.prog 57 #[va, .func (.func f) #[] cap] w fun e w' => e = .returned (.bool (xs.any g)) ∧ Below w.heap.size w w' := by
 have H := hide (idxS_any f hen cap g va xs w ha hm hf)
 have hz := sIdx_any g xs 0 (by omega)
 have HV := hide hz.symm
 clear hz ha hf hm
 generalize sIdx g xs 0 = z at H HV
 obtain ⟨bb, hb⟩ : ∃ b, decide (0 ≤ z) = b := ⟨_, rfl⟩
 rw [HV.out, hb]
 go_enter Tryz.func57, Tryz.ntmps57
 go_wp2_with (go_at_call 109; (with_reducible refine H.out.mono ?_); rintro e w' ⟨rfl, hb2⟩)
 go_ret
 exact ⟨by first | rfl | (rw [← hb]), hb2⟩
end Go.Proofs.YtnohmgpmmhlloaaGreatDoor

namespace Go.Proofs.YtnohmgpmmhlloaaGreatDoor.S6
set_option maxRecDepth 100000

inductive VR where
 | ok (v : Nat) (rest : List UInt8)
 | bad (e : Nat)
def rvF : List UInt8 → Nat → Nat → VR
 | [], _, _ => .bad 2
 | c :: b, i, n =>
  if (i = 9 ∧ 1 < c.toNat) ∨ (0 < i ∧ c.toNat = 0) then .bad 3
  else if c.toNat < 128 then .ok (n + c.toNat * 2 ^ (7 * i)) b
  else rvF b (i + 1) (n + (c.toNat - 128) * 2 ^ (7 * i))
@[irreducible] def rv (l : List UInt8) : VR := rvF l 0 0
theorem rv_eq (l : List UInt8) : rv l = rvF l 0 0 := by unfold rv; rfl
end Go.Proofs.YtnohmgpmmhlloaaGreatDoor.S6

namespace Go.Proofs.YtnohmgpmmhlloaaGreatDoor.S6
set_option maxRecDepth 100000
open Go.RowKit

@[irreducible] def cutA (A : Option Addr) (c k : Nat) : Option Addr := if c = k then A else A.map (·.add k)
theorem rd_cut {w : World} {A : Option Addr} {n c : Nat} {l : List UInt8} (h : Rd w (.slice A n c) 1 n (bvs l)) (k : Nat) (hk : k ≤ n) : Rd w (.slice (cutA A c k) (n - k) (c - k)) 1 (n - k) (bvs (l.drop k)) := by
 obtain ⟨A', c', e, h1, h2, h3, h4, h5⟩ := h
 injection e with e1 _ e3
 subst e1 e3
 rw [length_bvs] at h1
 refine ⟨_, _, rfl, by rw [length_bvs, List.length_drop]; omega, by omega, by omega, ?_, ?_⟩
 ·intro hA
  unfold cutA at hA
  split at hA
  ·have := h4 hA; omega
  ·have : A = none := by simpa using hA
   have := h4 this; omega
 ·intro b o sp hA
  unfold cutA at hA
  split at hA
  ·rename_i hck
   have hl : l.drop k = [] := List.drop_eq_nil_of_le (by omega)
   exact ⟨fun hn => by omega, fun j u hu => by rw [hl] at hu; simp [bvs] at hu⟩
  ·obtain ⟨ad, rfl, had⟩ : ∃ ad, A = some ad ∧ ad.add k = ⟨b, o, sp⟩ := by
    cases A with
    | none => simp at hA
    | some ad => exact ⟨ad, rfl, by simpa using hA⟩
   obtain ⟨b', o', sp'⟩ := ad
   obtain ⟨k1, k2⟩ := h5 b' o' sp' rfl
   by_cases hk0 : k = 0
   ·subst hk0
    simp only [Addr.add_zero', Addr.mk.injEq] at had
    obtain ⟨rfl, rfl, rfl⟩ := had
    exact ⟨fun hn => k1 (by omega), fun j u hu => k2 j u (by simpa using hu)⟩
   ·have hz : (⟨b', o', sp'⟩ : Addr).add k = ⟨b', o' + k, none⟩ := by unfold Addr.add; rw [if_neg hk0]
    rw [hz, Addr.mk.injEq] at had
    obtain ⟨rfl, rfl, rfl⟩ := had
    refine ⟨fun _ => rfl, fun j u hu => ?_⟩
    rw [Nat.add_assoc]
    refine k2 (k + j) u ?_
    rw [← hu]
    simp [bvs, List.getElem?_drop]
theorem RdH.cut {w0 : World} {M : Nat → Prop} {H : List Chunk} {A : Option Addr} {n c : Nat} {l : List UInt8} (h : RdH w0 M H (.slice A n c) 1 n (bvs l)) (k : Nat) (hk : k ≤ n) : RdH w0 M H (.slice (cutA A c k) (n - k) (c - k)) 1 (n - k) (bvs (l.drop k)) :=
 fun w hS => rd_cut (h w hS) k hk

def RdrC (g : Nat) (A : Option Addr) (n c : Nat) (e : Nat) (H : List Chunk) : List Chunk := .cells g #[.slice A n c, .int .i64 (e : Nat)] 143 :: H

@[irreducible] def badB (k x : Nat) : Bool := (decide (k = 9) && decide (1 < x)) || (decide (0 < k) && decide (x = 0))
theorem run_cut {P : Program} {t e : TypeId} (ht : P.underlying t = some (.slice e)) (hs : P.cellsOf e = 1) (hz : ∃ i, P.info? e = some i) (kd : IntKind) (A : Option Addr) (n c k : Nat) (hk : k ≤ n) (W : World) :
  (Instr.sliceAt t (.slice A n c) (some (.int kd (k : Int))) none none).run P W = .ok (.slice (cutA A c k) (n - k) (c - k)) W := by
 obtain ⟨i, hi⟩ := hz
 have hsz : i.size = 1 := by simpa [Program.cellsOf, hi] using hs
 have hb : (Instr.sliceBound (.int kd (k : Int)) n .sliceB).run P W = .ok k W := by
  simp [Instr.sliceBound, asIntOf, hk]
 unfold Instr.sliceAt Instr.slice Instr.sliceBounds cutA
 simp only [Sem.run_bind, run_underlying ht, Result.andThen_ok, Sem.run_pure, hb, sizeOf, typeInfo, run_program, hi, hsz, Nat.mul_one, Option.isSome_none]
 simp only [Bool.false_eq_true, if_false, hb, Result.andThen_ok, Sem.run_pure, Sem.run_bind, hsz, Nat.mul_one]
theorem infoU8 : ∃ i, Tryz.prog.info? 5 = some i := by
 cases h : Tryz.prog.info? 5 with
 | some i => exact ⟨i, rfl⟩
 | none =>
  have : (Tryz.prog.info? 5).isSome = true := by kernel_rfl
  rw [h] at this
  cases this
theorem cellU8 : Tryz.prog.cellsOf 5 = 1 := by kernel_rfl

def CutR (A : Option Addr) (c : Nat) (l : List UInt8) (A' : Option Addr) (c' : Nat) (l' : List UInt8) : Prop :=
 ∀ w, Rd w (.slice A l.length c) 1 l.length (bvs l) → Rd w (.slice A' l'.length c') 1 l'.length (bvs l')
theorem CutR.trans {A A' A'' : Option Addr} {c c' c'' : Nat} {l l' l'' : List UInt8} (h : CutR A c l A' c' l') (k : CutR A' c' l' A'' c'' l'') : CutR A c l A'' c'' l'' := fun w x => k w (h w x)
theorem CutR.rdH {w0 : World} {M : Nat → Prop} {H : List Chunk} {A A' : Option Addr} {c c' : Nat} {l l' : List UInt8} (h : CutR A c l A' c' l') (hr : RdH w0 M H (.slice A l.length c) 1 l.length (bvs l)) : RdH w0 M H (.slice A' l'.length c') 1 l'.length (bvs l') := fun w x => h w (hr w x)
theorem cutR (A : Option Addr) (c : Nat) (l : List UInt8) (k : Nat) (hk : k ≤ l.length) : CutR A c l (cutA A c k) (c - k) (l.drop k) := fun w h => by
 rw [List.length_drop]
 exact rd_cut h k hk
def RvPost (w0 : World) (M : Nat → Prop) (H : List Chunk) (g : Nat) (A : Option Addr) (c : Nat) (l : List UInt8) : VR → Ending → World → Prop
 | .ok v rest, e, w' => e = .returned (.int .u64 (v : Int)) ∧ W64 v ∧ ∃ A' c', St w0 M w' (RdrC g A' rest.length c' 0 H) ∧ CutR A c l A' c' rest
 | .bad k, e, w' => e = .returned (.int .u64 0) ∧ St w0 M w' (RdrC g A l.length c k H)

theorem rv_bad (l : List UInt8) (k acc x : Nat) (h : k < l.length) (hx : x = l[k].toNat) (hb : badB k x = true) (hv : rvF (l.drop k) k acc = rv l) : rv l = .bad 3 := by
 rw [← hv, List.drop_eq_getElem_cons h, rvF, if_pos]
 unfold badB at hb
 subst hx
 simpa using hb
theorem rv_ok (l : List UInt8) (k acc x : Nat) (h : k < l.length) (hx : x = l[k].toNat) (hb : badB k x = false) (h1 : x < 128) (hv : rvF (l.drop k) k acc = rv l) : rv l = .ok (acc + x * 2 ^ (7 * k)) (l.drop (k + 1)) := by
 rw [← hv, List.drop_eq_getElem_cons h, rvF, if_neg, if_pos (by omega), hx]
 unfold badB at hb
 subst hx
 simpa using hb
theorem rv_on (l : List UInt8) (k acc x : Nat) (h : k < l.length) (hx : x = l[k].toNat) (hb : badB k x = false) (h1 : ¬ x < 128) (hv : rvF (l.drop k) k acc = rv l) : rvF (l.drop (k + 1)) (k + 1) (acc + (x - 128) * 2 ^ (7 * k)) = rv l := by
 rw [← hv, List.drop_eq_getElem_cons h, rvF, if_neg, if_neg (by omega), hx]
 unfold badB at hb
 subst hx
 simpa using hb
theorem rv_end (l : List UInt8) (k acc : Nat) (h : ¬ k < l.length) (hv : rvF (l.drop k) k acc = rv l) : rv l = .bad 2 := by
 rw [← hv, List.drop_eq_nil_of_le (by omega), rvF]
theorem bad_nine (k x : Nat) (hk : k ≤ 9) (hb : badB k x = false) : k = 9 → x ≤ 1 := by
 unfold badB at hb
 simp at hb
 omega
theorem or_step (k acc x : Nat) (hk : k ≤ 9) (hx : x < 256) (h9 : k = 9 → x ≤ 1) (ha : acc < 2 ^ (7 * k)) :
  bits .or .u64 (acc : Int) (IntKind.u64.wrap (IntKind.u64.wrap (bits .andNot .u8 (x : Int) 128) * 2 ^ (7 * k))) = ((acc + x % 128 * 2 ^ (7 * k) : Nat) : Int) ∧ W64 (acc + x % 128 * 2 ^ (7 * k)) ∧ acc + x % 128 * 2 ^ (7 * k) < 2 ^ (7 * (k + 1)) := by
 have e1 : bits .andNot .u8 (x : Int) 128 = ((x % 128 : Nat) : Int) := by
  have := u8_andNot_nat x 128 hx (by omega)
  rw [show 255 - 128 = 127 from rfl, nat_mask7] at this
  exact this
 have hp : 0 < 2 ^ (7 * k) := Nat.two_pow_pos _
 have hm : x % 128 * 2 ^ (7 * k) ≤ 127 * 2 ^ (7 * k) := Nat.mul_le_mul_right _ (by omega)
 have hlt : x % 128 * 2 ^ (7 * k) + 2 ^ (7 * k) ≤ 18446744073709551616 := by
  by_cases h : k = 9
  ·have h1 := h9 h
   have h2 : 2 ^ (7 * k) = 9223372036854775808 := by rw [h]
   rw [h2]
   omega
  ·have h2 : 2 ^ (7 * k) ≤ 2 ^ 56 := Nat.pow_le_pow_right (by omega) (by omega)
   have h3 : (2 : Nat) ^ 56 = 72057594037927936 := rfl
   rw [h3] at h2
   omega
 have e2 : (IntKind.u64.wrap ((x % 128 : Nat) : Int)) = ((x % 128 : Nat) : Int) := by rw [IntKind.wrap_u64]; omega
 have e3 : IntKind.u64.wrap (((x % 128 : Nat) : Int) * 2 ^ (7 * k)) = ((x % 128 * 2 ^ (7 * k) : Nat) : Int) := by
  rw [show (((x % 128 : Nat) : Int) * 2 ^ (7 * k)) = ((x % 128 * 2 ^ (7 * k) : Nat) : Int) from by simp, IntKind.wrap_u64]
  omega
 rw [e1, e2, e3, u64_or_nat _ _ (by omega) (by omega), Nat.or_comm, nat_join (7 * k) _ _ (Nat.mul_mod_left _ _) ha]
 refine ⟨by rw [Nat.add_comm], by unfold W64; omega, ?_⟩
 rw [show 7 * (k + 1) = 7 * k + 7 from by omega, Nat.pow_add]
 omega
theorem rvarint_walk {w0 w : World} {M : Nat → Prop} {H : List Chunk} (g : Nat) (A : Option Addr) (c : Nat) (l : List UInt8) (hl : l.length ≤ 1000000) (hr : RdH w0 M H (.slice A l.length c) 1 l.length (bvs l))
  (hS : St w0 M w (RdrC g A l.length c 0 H)) :
  Calls Tryz.prog 148 #[.pointer (some ⟨g, 0, none⟩)] w (RvPost w0 M H g A c l (rv l)) := by
 have hS0 := hide hS
 unfold RdrC at hS
 have hc0 : w.cell? ⟨g, 0, none⟩ = some (.slice A l.length c) := hS.cell 0 rfl 0
 have hc1 : w.cell? ⟨g, 1, none⟩ = some (.int .i64 0) := hS.cell 0 rfl 1
 have hf0 := hS.free 0 rfl 0
 have hf1 := hS.free 0 rfl 1
 have hrd := hr w hS.tail
 go_enter Tryz.func148, Tryz.ntmps148
 go_wp2_with fail
 go_loop [3, 6] (fun n i => ∃ k acc : Nat, i = .int .i64 k ∧ n = .int .u64 acc ∧ k ≤ 9 ∧ k ≤ l.length ∧ acc < 2 ^ (7 * k) ∧ rvF (l.drop k) k acc = rv l) (fun _ i => 10 - (intOf i).toNat)
 case atStart => exact ⟨0, 0, rfl, rfl, by omega, by omega, by simp, by rw [rv_eq]; rfl⟩
 case round =>
  obtain ⟨k, acc, rfl, rfl, hk, hkl, hacc, hrv⟩ := hrel
  have HA := hide hacc
  have HV := hide hrv
  clear hacc hrv
  by_cases hlt : k < l.length
  ·rcases hrd.cases with ⟨_, h0, _⟩ | ⟨b, o, sp, c', hA, hb, _, _, _, hsp, hcl⟩
   ·omega
   injection hA with hA _ hc'
   subst hA hc'
   obtain rfl : sp = none := hsp (by omega)
   have hcx : w.cell? ⟨b, o + k, none⟩ = some (.int .u8 (l[k].toNat : Int)) := hcl k _ (by simp [bvs, bv, List.getElem?_eq_getElem hlt])
   have hxl : l[k].toNat < 256 := UInt8.toNat_lt _
   obtain ⟨x, hx⟩ : ∃ x, x = l[k].toNat := ⟨_, rfl⟩
   rw [← hx] at hcx hxl
   have HX := hide hx
   clear hx hcl hsp
   have hge : decide (l.length ≤ k) = false := by simp; omega
   go_upto_region 11 with fail
   go_cut [46] (fun s wx => s = .bool (badB k x) ∧ wx = w)
   case first =>
    have e9 : ((k : Int) == 9) = decide (k = 9) := by rw [Bool.eq_iff_iff]; simp; omega
    have e1 : decide (1 < (x : Int)) = decide (1 < x) := by rw [Bool.eq_iff_iff]; simp; omega
    have e0 : decide (0 < (k : Int)) = decide (0 < k) := by rw [Bool.eq_iff_iff]; simp
    have ez : ((x : Int) == 0) = decide (x = 0) := by rw [Bool.eq_iff_iff]; simp
    have ez' : (x == 0) = decide (x = 0) := by rw [Bool.eq_iff_iff]; simp
    have ew : badB k x = ((decide (k = 9) && decide (1 < x)) || (decide (0 < k) && decide (x = 0))) := by unfold badB; rfl
    cases h9 : decide (k = 9) <;> cases h1 : decide (1 < x) <;> cases h0 : decide (0 < k) <;> cases hx0 : decide (x = 0)
    all_goals (rw [h9] at e9; rw [h1] at e1; rw [h0] at e0; rw [hx0] at ez ez'; rw [h9, h1, h0, hx0] at ew; have EW := hide ew; clear ew h9)
    all_goals go_wp2_with fail
    all_goals (go_meet; refine ⟨?_, rfl⟩; rw [EW.out]; rfl)
   case rest =>
    obtain ⟨rfl, rfl⟩ := hcut
    have hct := fun W => run_cut Tryz.underlying22 cellU8 infoU8 .i64 (some ⟨b, o, none⟩) l.length c (k + 1) (by omega) (P := Tryz.prog) W
    rw [show (((k + 1 : Nat)) : Int) = (k : Int) + 1 from by omega] at hct
    cases hbad : badB k x
    ·obtain ⟨o1, o2, o3⟩ := or_step k acc x hk hxl (bad_nine k x hk hbad) HA.out
     have O2 := hide o2
     have O3 := hide o3
     clear o2 o3
     by_cases h128 : x < 128
     ·have HR := hide (rv_ok l k acc x hlt HX.out hbad h128 HV.out)
      have hv : (acc : Int) + (x : Int) % 128 * 2 ^ (7 * k) = ((acc + x * 2 ^ (7 * k) : Nat) : Int) := by
       have : (x : Int) % 128 = x := by omega
       rw [this]
       simp
      have O := O2.out
      rw [show x % 128 = x from by omega] at O
      have HV' := hide hv
      have HO := hide O
      clear hv O
      go_wp2_with fail
      go_ret
      rw [HR.out]
      refine ⟨congrArg (fun z => Ending.returned (Value.int .u64 z)) HV'.out, HO.out, cutA (some ⟨b, o, none⟩) c (k + 1), c - (k + 1), ?_, ?_⟩
      ·rw [List.length_drop]
       exact hS.setCell 0 rfl 0 (.slice (cutA (some ⟨b, o, none⟩) c (k + 1)) (l.length - (k + 1)) (c - (k + 1)))
      ·exact cutR _ _ l (k + 1) (by omega)
     ·have HR := hide (rv_on l k acc x hlt HX.out hbad h128 HV.out)
      have h9 := bad_nine k x hk hbad
      have hv : (acc : Int) + (x : Int) % 128 * 2 ^ (7 * k) = ((acc + (x - 128) * 2 ^ (7 * k) : Nat) : Int) := by
       have : (x : Int) % 128 = ((x - 128 : Nat) : Int) := by omega
       rw [this]
       simp
      have O := O3.out
      rw [show x % 128 = x - 128 from by omega] at O
      have HV' := hide hv
      have HO := hide O
      have H9 := hide h9
      clear hv O h9
      go_wp2_with fail
      go_round
      case rel => exact ⟨k + 1, acc + (x - 128) * 2 ^ (7 * k), by go_num, congrArg (Value.int .u64) HV'.out, by have := H9.out; omega, by omega, HO.out, HR.out⟩
      case measure => simp [intOf]; omega
    ·have HR := hide (rv_bad l k acc x hlt HX.out hbad HV.out)
     go_wp2_with fail
     go_ret
     rw [HR.out]
     exact ⟨rfl, hS.setCell 0 rfl 1 (.int .i64 3)⟩
  ·have hge : decide (l.length ≤ k) = true := by simp; omega
   have HR := hide (rv_end l k acc hlt HV.out)
   go_wp2_with fail
   go_ret
   rw [HR.out]
   exact ⟨rfl, hS.setCell 0 rfl 1 (.int .i64 2)⟩
end Go.Proofs.YtnohmgpmmhlloaaGreatDoor.S6

namespace Go.Proofs.YtnohmgpmmhlloaaGreatDoor.S6
set_option maxRecDepth 100000
open Go.RowKit

theorem rd_take {w : World} {A : Option Addr} {n c : Nat} {l : List UInt8} (h : Rd w (.slice A n c) 1 n (bvs l)) (k : Nat) (hk : k ≤ n) : Rd w (.slice A k c) 1 k (bvs (l.take k)) := by
 obtain ⟨A', c', e, h1, h2, h3, h4, h5⟩ := h
 injection e with e1 _ e3
 subst e1 e3
 rw [length_bvs] at h1
 refine ⟨_, _, rfl, by rw [length_bvs, List.length_take]; omega, by omega, by omega, h4, fun b o sp hA => ?_⟩
 obtain ⟨k1, k2⟩ := h5 b o sp hA
 refine ⟨fun hn => k1 (by omega), fun j u hu => k2 j u ?_⟩
 rw [← hu]
 have hj : j < k := by
  have := (List.getElem?_eq_some_iff.1 hu).1
  rw [length_bvs, List.length_take] at this
  omega
 simp [bvs, List.getElem?_take, hj]

inductive BR where
 | ok (b rest : List UInt8)
 | bad (e : Nat)
@[irreducible] def rw_ (l : List UInt8) : BR :=
 match rv l with
 | .ok n rest => if n ≤ rest.length then .ok (rest.take n) (rest.drop n) else .bad 2
 | .bad k => .bad k
def RwPost (w0 : World) (M : Nat → Prop) (H : List Chunk) (g : Nat) (A : Option Addr) (c : Nat) (l : List UInt8) : BR → Ending → World → Prop
 | .ok b rest, e, w' => ∃ B d, e = .returned (.slice B b.length d) ∧ ∃ A' c', St w0 M w' (RdrC g A' rest.length c' 0 (.row (.slice B b.length d) 5 1 b.length (bvs b) :: H)) ∧ CutR A c l A' c' rest
 | .bad k, e, w' => e = .returned (.slice none 0 0) ∧ ∃ A' n' c', St w0 M w' (RdrC g A' n' c' k H)
theorem rw_bad (l : List UInt8) (k : Nat) (h : rv l = .bad k) : rw_ l = .bad k := by unfold rw_; rw [h]
theorem rw_short (l : List UInt8) (n : Nat) (r : List UInt8) (h : rv l = .ok n r) (hn : ¬ n ≤ r.length) : rw_ l = .bad 2 := by unfold rw_; rw [h]; simp only [if_neg hn]
theorem rw_ok (l : List UInt8) (n : Nat) (r : List UInt8) (h : rv l = .ok n r) (hn : n ≤ r.length) : rw_ l = .ok (r.take n) (r.drop n) := by unfold rw_; rw [h]; simp only [if_pos hn]
theorem rvF_bad : ∀ (l : List UInt8) (i n k : Nat), rvF l i n = .bad k → k = 2 ∨ k = 3
 | [], i, n, k, h => by simp [rvF] at h; exact .inl h.symm
 | c :: b, i, n, k, h => by
  unfold rvF at h
  split at h
  ·injection h with h; exact .inr h.symm
  ·split at h
   ·cases h
   ·exact rvF_bad b _ _ k h
theorem rv_bads (l : List UInt8) (k : Nat) (h : rv l = .bad k) : k = 2 ∨ k = 3 := by rw [rv_eq] at h; exact rvF_bad l _ _ k h
theorem rvF_len : ∀ (l : List UInt8) (i n v : Nat) (r : List UInt8), rvF l i n = .ok v r → r.length < l.length
 | [], i, n, v, r, h => by simp [rvF] at h
 | c :: b, i, n, v, r, h => by
  unfold rvF at h
  split at h
  ·cases h
  ·split at h
   ·injection h with _ h; subst h; simp
   ·have := rvF_len b _ _ v r h
    simp only [List.length_cons]; omega
theorem rv_len (l : List UInt8) (v : Nat) (r : List UInt8) (h : rv l = .ok v r) : r.length < l.length := by rw [rv_eq] at h; exact rvF_len l _ _ v r h

theorem rraw_walk {w0 w : World} {M : Nat → Prop} {H : List Chunk} (g : Nat) (A : Option Addr) (c : Nat) (l : List UInt8) (hl : l.length ≤ 1000000) (hr : RdH w0 M H (.slice A l.length c) 1 l.length (bvs l))
  (hS : St w0 M w (RdrC g A l.length c 0 H)) :
  Calls Tryz.prog 151 #[.pointer (some ⟨g, 0, none⟩)] w (RwPost w0 M H g A c l (rw_ l)) := by
 have V := rvarint_walk g A c l hl hr hS
 cases hv : rv l with
 | bad k =>
  have hk := rv_bads l k hv
  rw [rw_bad l k hv]
  rw [hv] at V
  have VV := hide V
  have hk1 : ((k : Int) == 0) = false := by rcases hk with rfl | rfl <;> rfl
  have hk2 : ((k : Int) != 0) = true := by rcases hk with rfl | rfl <;> rfl
  clear V hv hk hS hr hl
  go_enter Tryz.func151, Tryz.ntmps151
  go_wp2_with (go_at_call 148; refine VV.out.mono ?_; rintro e w1 ⟨rfl, hS1⟩; have c1 : w1.cell? ⟨g, 1, none⟩ = some (.int .i64 (k : Int)) := hS1.cell 0 rfl 1)
  go_ret
  exact ⟨rfl, A, l.length, c, hS1⟩
 | ok n rest =>
  have hlen := rv_len l n rest hv
  rw [hv] at V
  have VV := hide V
  by_cases hn : n ≤ rest.length
  ·rw [rw_ok l n rest hv hn]
   have hn' : decide ((rest.length : Int) < (n : Int)) = false := by simp; omega
   have hlr : n ≤ 4294967296 := by omega
   have HR := hide hr
   clear V hv hS hr
   go_enter Tryz.func151, Tryz.ntmps151
   go_wp2_with (first
    | (go_at_call 148; refine VV.out.mono ?_; rintro e w1 ⟨rfl, hw, A1, a1, hS1, hr1⟩; have c0 : w1.cell? ⟨g, 0, none⟩ = some (.slice A1 rest.length a1) := hS1.cell 0 rfl 0; have c1 : w1.cell? ⟨g, 1, none⟩ = some (.int .i64 0) := hS1.cell 0 rfl 1; have hq := hr1 w1 (HR.out w1 hS1.tail); have hcap : rest.length ≤ a1 := (by obtain ⟨_, _, e, _, h, _⟩ := hq; injection e with _ _ e; omega); have hct := run_cut Tryz.underlying22 cellU8 infoU8 .u64 A1 rest.length a1 n hn (P := Tryz.prog); clear hw)
    | (at_builtin; refine wl_append0 rfl rfl tyB hS1 rfl rfl (rd_take hq n hn) (one_bvs _) hlr (by decide) ?_; intro B d w2 hS2; have d0 : w2.cell? ⟨g, 0, none⟩ = some (.slice A1 rest.length a1) := hS2.cell 1 rfl 0; have g0 := hS2.free 1 rfl 0))
   go_ret
   have e1 : (rest.take n).length = n := by rw [List.length_take]; omega
   have hS3 := (hS2.setCell 1 rfl 0 (.slice (cutA A1 a1 n) (rest.length - n) (a1 - n))).swap
   refine ⟨B, d, by rw [e1]; rfl, cutA A1 a1 n, a1 - n, ?_, ?_⟩
   ·rw [e1, List.length_drop]
    exact hS3
   ·exact hr1.trans (cutR _ _ rest n hn)
  ·rw [rw_short l n rest hv hn]
   have hn' : decide ((rest.length : Int) < (n : Int)) = true := by simp; omega
   clear V hv hS hr
   go_enter Tryz.func151, Tryz.ntmps151
   go_wp2_with (go_at_call 148; refine VV.out.mono ?_; rintro e w1 ⟨rfl, hw, A1, a1, hS1, hr1⟩; have c0 : w1.cell? ⟨g, 0, none⟩ = some (.slice A1 rest.length a1) := hS1.cell 0 rfl 0; have c1 : w1.cell? ⟨g, 1, none⟩ = some (.int .i64 0) := hS1.cell 0 rfl 1; have f0 := hS1.free 0 rfl 1; clear hw)
   go_ret
   exact ⟨rfl, A1, rest.length, a1, hS1.setCell 0 rfl 1 (.int .i64 2)⟩
end Go.Proofs.YtnohmgpmmhlloaaGreatDoor.S6

namespace Go.Proofs.YtnohmgpmmhlloaaGreatDoor.S6
set_option maxRecDepth 100000
open Go.RowKit

def FldC (b1 g b4 : Nat) (cs : Array Value) (H : List Chunk) : List Chunk := .cells b4 cs 93 :: .cells b1 #[.pointer (some ⟨g, 0, none⟩)] 141 :: H
def P0 (b : Nat) : Value := .pointer (some ⟨b, 0, none⟩)

theorem clo1_walk {w0 w : World} {M : Nat → Prop} {H : List Chunk} (g b1 b4 : Nat) (num : Int) (A : Option Addr) (c : Nat) (l : List UInt8) (hl : l.length ≤ 1000000) (hr : RdH w0 M H (.slice A l.length c) 1 l.length (bvs l))
  (hS : St w0 M w (RdrC g A l.length c 0 (FldC b1 g b4 #[.int .i64 num, .bool false, .int .u64 0, .slice none 0 0] H))) :
  Calls Tryz.prog 149 #[P0 b1, P0 b4] w fun e w' => e = .returned (.tuple #[]) ∧ match rv l with
   | .ok n rest => W64 n ∧ ∃ A' c', St w0 M w' (RdrC g A' rest.length c' 0 (FldC b1 g b4 #[.int .i64 num, .bool false, .int .u64 (n : Int), .slice none 0 0] H)) ∧ CutR A c l A' c' rest
   | .bad k => St w0 M w' (RdrC g A l.length c k (FldC b1 g b4 #[.int .i64 num, .bool false, .int .u64 0, .slice none 0 0] H)) := by
 have V := hide (rvarint_walk g A c l hl (fun w h => hr w h.tail.tail) hS)
 have cb : w.cell? ⟨b1, 0, none⟩ = some (P0 g) := hS.cell 2 rfl 0
 clear hS hr
 unfold P0 at *
 go_enter Tryz.func149, Tryz.ntmps149
 cases hv : rv l with
 | ok n rest =>
  rw [hv] at V
  go_wp2_with (go_at_call 148; refine V.out.mono ?_; rintro e w1 ⟨rfl, hw, A1, a1, hS1, hr1⟩; have f2 := hS1.free 1 rfl 2; have c2 : w1.cell? ⟨b4, 2, none⟩ = some (.int .u64 0) := hS1.cell 1 rfl 2)
  go_end0
  exact ⟨rfl, A1, a1, hS1.setCell 1 rfl 2 (.int .u64 (n : Int)), hr1⟩
 | bad k =>
  rw [hv] at V
  go_wp2_with (go_at_call 148; refine V.out.mono ?_; rintro e w1 ⟨rfl, hS1⟩; have f2 := hS1.free 1 rfl 2; have c2 : w1.cell? ⟨b4, 2, none⟩ = some (.int .u64 0) := hS1.cell 1 rfl 2)
  go_end0
  exact ⟨rfl, hS1.setCell 1 rfl 2 (.int .u64 0)⟩
theorem clo2_walk {w0 w : World} {M : Nat → Prop} {H : List Chunk} (g b1 b4 : Nat) (num : Int) (A : Option Addr) (c : Nat) (l : List UInt8) (hl : l.length ≤ 1000000) (hr : RdH w0 M H (.slice A l.length c) 1 l.length (bvs l))
  (hS : St w0 M w (RdrC g A l.length c 0 (FldC b1 g b4 #[.int .i64 num, .bool false, .int .u64 0, .slice none 0 0] H))) :
  Calls Tryz.prog 150 #[P0 b1, P0 b4] w fun e w' => e = .returned (.tuple #[]) ∧ match rw_ l with
   | .ok b rest => ∃ B d A' c', St w0 M w' (RdrC g A' rest.length c' 0 (.row (.slice B b.length d) 5 1 b.length (bvs b) :: FldC b1 g b4 #[.int .i64 num, .bool true, .int .u64 0, .slice B b.length d] H)) ∧ CutR A c l A' c' rest
   | .bad k => ∃ A' n' c', St w0 M w' (RdrC g A' n' c' k (FldC b1 g b4 #[.int .i64 num, .bool true, .int .u64 0, .slice none 0 0] H)) := by
 have V := hide (rraw_walk g A c l hl (fun w h => hr w h.tail.tail) hS)
 have cb : w.cell? ⟨b1, 0, none⟩ = some (P0 g) := hS.cell 2 rfl 0
 clear hS hr
 unfold P0 at *
 go_enter Tryz.func150, Tryz.ntmps150
 cases hv : rw_ l with
 | ok b rest =>
  rw [hv] at V
  go_wp2_with (go_at_call 151; refine V.out.mono ?_; rintro e w1 ⟨B, d, rfl, A1, a1, hS1, hr1⟩; have f1 := hS1.free 2 rfl 1; have f3 := hS1.free 2 rfl 3; have c1 : w1.cell? ⟨b4, 1, none⟩ = some (.bool false) := hS1.cell 2 rfl 1; have c3 : w1.cell? ⟨b4, 3, none⟩ = some (.slice none 0 0) := hS1.cell 2 rfl 3)
  go_end0
  exact ⟨rfl, B, d, A1, a1, (hS1.setCell 2 rfl 1 (.bool true)).setCell 2 rfl 3 (.slice B b.length d), hr1⟩
 | bad k =>
  rw [hv] at V
  go_wp2_with (go_at_call 151; refine V.out.mono ?_; rintro e w1 ⟨rfl, A1, n1, a1, hS1⟩; have f1 := hS1.free 1 rfl 1; have f3 := hS1.free 1 rfl 3; have c1 : w1.cell? ⟨b4, 1, none⟩ = some (.bool false) := hS1.cell 1 rfl 1; have c3 : w1.cell? ⟨b4, 3, none⟩ = some (.slice none 0 0) := hS1.cell 1 rfl 3)
  go_end0
  exact ⟨rfl, A1, n1, a1, (hS1.setCell 1 rfl 1 (.bool true)).setCell 1 rfl 3 (.slice none 0 0)⟩
end Go.Proofs.YtnohmgpmmhlloaaGreatDoor.S6

namespace Go.Proofs.YtnohmgpmmhlloaaGreatDoor.S6
set_option maxRecDepth 100000
open Go.RowKit

structure FdV where
 num : Nat
 whole : Bool
 n : Nat
 b : List UInt8
inductive FR where
 | ok (f : FdV) (rest : List UInt8)
 | bad (e : Nat)
@[irreducible] def numF (tag : Nat) : Nat := min (tag / 8) 101
@[irreducible] def fd (l : List UInt8) : FR :=
 match rv l with
 | .bad k => .bad k
 | .ok tag rest =>
  if (tag % 8 = 0 ∨ tag % 8 = 2) ∧ mayB (numF tag) = true then
   if tag % 8 = 0 then match rv rest with
    | .ok n r => .ok ⟨numF tag, false, n, []⟩ r
    | .bad k => .bad k
   else match rw_ rest with
    | .ok b r => .ok ⟨numF tag, true, 0, b⟩ r
    | .bad k => .bad k
  else .bad 3
def takeV (k b1 b4 : Nat) : Value := if k = 0 then .func (.func 149) #[] #[P0 b1, P0 b4] else if k = 2 then .func (.func 150) #[] #[P0 b1, P0 b4] else .nilFunc
def FdPost (w0 : World) (M : Nat → Prop) (H : List Chunk) (g : Nat) (A : Option Addr) (c : Nat) (l : List UInt8) : FR → Ending → World → Prop
 | .ok f rest, e, w' => ∃ B d, e = .returned (.agg #[.int .i64 (f.num : Int), .bool f.whole, .int .u64 (f.n : Int), .slice B f.b.length d]) ∧ ∃ A' c', St w0 M w' (RdrC g A' rest.length c' 0 (.row (.slice B f.b.length d) 5 1 f.b.length (bvs f.b) :: H)) ∧ CutR A c l A' c' rest
 | .bad k, e, w' => ∃ x1 x2 x3 B m d, e = .returned (.agg #[.int .i64 x1, .bool x2, .int .u64 x3, .slice B m d]) ∧ ∃ A' n' c', St w0 M w' (RdrC g A' n' c' k H)

theorem _root_.Go.Proofs.YtnohmgpmmhlloaaGreatDoor.St.ne {w0 w : World} {M : Nat → Prop} {H : List Chunk} (h : St w0 M w H) (i j : Nat) (hij : i ≠ j) {g g' : Nat} {c c' : Array Value} {e e' : TypeId} (hi : H[i]? = some (.cells g c e)) (hj : H[j]? = some (.cells g' c' e')) : g ≠ g' :=
 fun x => h.apart i j _ _ g hij hi hj rfl (by rw [x]; rfl)
theorem eq_fn (w : World) (f : Fn) (a b : Array Value) : (binOp .eql 1 (.func f a b) .nilFunc).run Tryz.prog w = .ok (.bool false) w := by kernel_rfl
theorem eq_nilFn (w : World) : (binOp .eql 1 .nilFunc .nilFunc).run Tryz.prog w = .ok (.bool true) w := by kernel_rfl
theorem fd_bad (l : List UInt8) (k : Nat) (h : rv l = .bad k) : fd l = .bad k := by unfold fd; rw [h]
theorem fd_no (l : List UInt8) (tag : Nat) (rest : List UInt8) (h : rv l = .ok tag rest) (hn : ¬ ((tag % 8 = 0 ∨ tag % 8 = 2) ∧ mayB (numF tag) = true)) : fd l = .bad 3 := by unfold fd; rw [h]; simp only [if_neg hn]
theorem fd_num (l : List UInt8) (tag n : Nat) (rest r : List UInt8) (h : rv l = .ok tag rest) (h0 : tag % 8 = 0) (hm : mayB (numF tag) = true) (h2 : rv rest = .ok n r) : fd l = .ok ⟨numF tag, false, n, []⟩ r := by
 unfold fd; rw [h]; simp only [if_pos (show (tag % 8 = 0 ∨ tag % 8 = 2) ∧ mayB (numF tag) = true from ⟨.inl h0, hm⟩), if_pos h0, h2]
theorem fd_numBad (l : List UInt8) (tag k : Nat) (rest : List UInt8) (h : rv l = .ok tag rest) (h0 : tag % 8 = 0) (hm : mayB (numF tag) = true) (h2 : rv rest = .bad k) : fd l = .bad k := by
 unfold fd; rw [h]; simp only [if_pos (show (tag % 8 = 0 ∨ tag % 8 = 2) ∧ mayB (numF tag) = true from ⟨.inl h0, hm⟩), if_pos h0, h2]
theorem fd_raw (l : List UInt8) (tag : Nat) (rest b r : List UInt8) (h : rv l = .ok tag rest) (h0 : tag % 8 = 2) (hm : mayB (numF tag) = true) (h2 : rw_ rest = .ok b r) : fd l = .ok ⟨numF tag, true, 0, b⟩ r := by
 unfold fd; rw [h]; simp only [if_pos (show (tag % 8 = 0 ∨ tag % 8 = 2) ∧ mayB (numF tag) = true from ⟨.inr h0, hm⟩), if_neg (show ¬ tag % 8 = 0 from by omega), h2]
theorem fd_rawBad (l : List UInt8) (tag k : Nat) (rest : List UInt8) (h : rv l = .ok tag rest) (h0 : tag % 8 = 2) (hm : mayB (numF tag) = true) (h2 : rw_ rest = .bad k) : fd l = .bad k := by
 unfold fd; rw [h]; simp only [if_pos (show (tag % 8 = 0 ∨ tag % 8 = 2) ∧ mayB (numF tag) = true from ⟨.inr h0, hm⟩), if_neg (show ¬ tag % 8 = 0 from by omega), h2]
theorem rvpost_any {w0 w' : World} {M : Nat → Prop} {H : List Chunk} {g : Nat} {A : Option Addr} {c : Nat} {l : List UInt8} {e : Ending} (h : RvPost w0 M H g A c l (rv l) e w') :
  ∃ (tag ek : Nat) (A1 : Option Addr) (n1 a1 : Nat), e = .returned (.int .u64 (tag : Int)) ∧ W64 tag ∧ St w0 M w' (RdrC g A1 n1 a1 ek H) ∧
   Hid ((∃ rest, rv l = .ok tag rest ∧ ek = 0 ∧ n1 = rest.length ∧ CutR A c l A1 a1 rest) ∨ (rv l = .bad ek ∧ tag = 0)) := by
 cases hv : rv l with
 | ok n rest =>
  rw [hv] at h
  obtain ⟨rfl, hw, A1, a1, hS, hr⟩ := h
  exact ⟨n, 0, A1, _, a1, rfl, hw, hS, .inl ⟨rest, rfl, rfl, rfl, hr⟩⟩
 | bad k =>
  rw [hv] at h
  obtain ⟨rfl, hS⟩ := h
  exact ⟨0, k, A, _, c, rfl, by unfold W64; omega, hS, .inr ⟨rfl, rfl⟩⟩
theorem numF_val (tag : Nat) : (numF tag : Int) = if (tag : Int) / 8 ≤ 101 then (tag : Int) / 8 else 101 := by
 unfold numF
 split <;> omega
theorem run_makeMap0 (P : Program) (t : TypeId) (w : World) : (Instr.makeMap t none).run P w = .ok (.map (some w.heap.size)) (w.alloc (.map #[] 0)) := rfl
theorem size_alloc1 (w : World) (o : Obj) : (w.alloc o).heap.size = w.heap.size + 1 := by
 show (w.heap.push o).size = _
 simp
def mapV (b1 b4 : Nat) : Array MapEntry := #[⟨.int .u64 0, .func (.func 149) #[] #[P0 b1, P0 b4], 0⟩, ⟨.int .u64 2, .func (.func 150) #[] #[P0 b1, P0 b4], 1⟩]
theorem find_take (b1 b4 k : Nat) : ∃ r, Instr.findNow (.int .u64) (.int .u64 (k : Int)) (mapV b1 b4).toList 0 = some r ∧ (r.map (·.2)).getD .nilFunc = takeV k b1 b4 := by
 unfold mapV takeV
 by_cases h0 : k = 0
 ·subst h0
  exact ⟨_, rfl, rfl⟩
 ·by_cases h2 : k = 2
  ·subst h2
   exact ⟨_, rfl, rfl⟩
  ·have e0 : ((k : Int) == 0) = false := by simp; omega
   have e2 : ((k : Int) == 2) = false := by simp; omega
   refine ⟨none, ?_, by simp [h0, h2]⟩
   simp [Instr.findNow, Instr.sameNow, e0, e2]
theorem zero_fn (w : World) : (zeroValue 1).run Tryz.prog w = .ok .nilFunc w := by kernel_rfl
theorem and7 (tag : Nat) (h : W64 tag) : bits .and .u64 (tag : Int) 7 = ((tag % 8 : Nat) : Int) := by
 unfold W64 at h
 have := u64_and_nat tag 7 (by omega) (by omega)
 rw [show ((7 : Nat) : Int) = 7 from rfl] at this
 rw [this]
 congr 1
 exact Nat.and_two_pow_sub_one_eq_mod tag 3
theorem field_walk {w0 w : World} {M : Nat → Prop} {H : List Chunk} (g : Nat) (A : Option Addr) (c : Nat) (l : List UInt8) (hl : l.length ≤ 1000000) (hr : RdH w0 M H (.slice A l.length c) 1 l.length (bvs l))
  (hS : St w0 M w (RdrC g A l.length c 0 H)) :
  Calls Tryz.prog 113 #[P0 g] w (FdPost w0 M H g A c l (fd l)) := by
 have hSa := ((hS.alloc #[P0 g] 141).alloc #[.int .i64 0, .bool false, .int .u64 0, .slice none 0 0] 93)
 have cb1 : ((w.alloc (.cells #[P0 g] 141)).alloc (.cells #[.int .i64 0, .bool false, .int .u64 0, .slice none 0 0] 93)).cell? ⟨w.heap.size, 0, none⟩ = some (P0 g) := hSa.cell 1 rfl 0
 rw [size_alloc1] at hSa
 have hSb : St w0 M ((w.alloc (.cells #[P0 g] 141)).alloc (.cells #[.int .i64 0, .bool false, .int .u64 0, .slice none 0 0] 93)) (RdrC g A l.length c 0 (.cells w.heap.size #[P0 g] 141 :: .cells (w.heap.size + 1) #[.int .i64 0, .bool false, .int .u64 0, .slice none 0 0] 93 :: H)) := hSa.rot3
 have V := hide (rvarint_walk g A c l hl (fun w h => hr w h.tail.tail) hSb)
 clear hS hSa hSb
 unfold P0 at *
 have hmm := run_makeMap0 Tryz.prog 193
 go_enter Tryz.func113, Tryz.ntmps113
 go_upto_region 2 with (go_at_call 148; refine V.out.mono ?_; rintro e w1 he; obtain ⟨tag, ek, A1, n1, a1, rfl, hw, hS1, hcase⟩ := rvpost_any he; clear he)
 have hv := hide (numF_val tag)
 clear V cb1
 go_cut [4] (fun p wx => ∃ b4, p = P0 b4 ∧ St w0 M wx (RdrC g A1 n1 a1 ek (FldC w.heap.size g b4 #[.int .i64 (numF tag : Int), .bool false, .int .u64 0, .slice none 0 0] (.cells (w.heap.size + 1) #[.int .i64 0, .bool false, .int .u64 0, .slice none 0 0] 93 :: H))))
 case first =>
  go_wp2_with fail
  all_goals (go_meet; refine ⟨_, rfl, ?_⟩; rw [hv.out]; split)
  all_goals first | (exfalso; omega) | exact (hS1.alloc _ _).swap
 case rest =>
  obtain ⟨b4, rfl, hS2⟩ := hcut
  clear hS1
  generalize hN : numF tag = num at *
  have hS3 := hide (hS2.allocObj (.map #[] 0))
  unfold P0 at *
  go_upto_region 3 with fail
  go_cut [5] (fun t wx => t = takeV (tag % 8) w.heap.size b4 ∧ St w0 M wx (RdrC g A1 n1 a1 ek (FldC w.heap.size g b4 #[.int .i64 (num : Int), .bool false, .int .u64 0, .slice none 0 0] (.cells (w.heap.size + 1) #[.int .i64 0, .bool false, .int .u64 0, .slice none 0 0] 93 :: H))))
  case first =>
   obtain ⟨r, hr1, hr2⟩ := find_take w.heap.size b4 (tag % 8)
   have hk := hide (and7 tag hw)
   go_wp2_with (first
    | (refine wl_insert (v := .tmp 14) rfl rfl Tryz.underlying193 Tryz.underlying51 hS3.out 0 rfl rfl rfl rfl rfl ?_; intro w4 hS4)
    | (refine wl_insert (v := .tmp 15) rfl rfl Tryz.underlying193 Tryz.underlying51 hS4 0 rfl rfl rfl rfl rfl ?_; intro w5 hS5; have hb5 : w5.heap[wc.heap.size]? = some (.map (mapV w.heap.size b4) 2) := hS5.sat 0 _ rfl)
    | (at_lookup; refine wl_lookup rfl rfl Tryz.underlying193 Tryz.underlying51 (zero_fn _) hb5 rfl (congrArg (Value.int .u64) hk.out) hr1 ?_; rw [hr2]))
   go_meet
   exact ⟨rfl, hS5.tail⟩
  case rest =>
   obtain ⟨rfl, hS5⟩ := hcut
   clear hS2 hS3
   rw [← hN] at *
   have hc1 : wc.cell? ⟨g, 1, none⟩ = some (.int .i64 (ek : Int)) := hS5.cell 0 rfl 1
   have eF := fun w f a b => eq_fn w f a b
   have eN := fun w => eq_nilFn w
   have hcb : wc.cell? ⟨w.heap.size, 0, none⟩ = some (.pointer (some ⟨g, 0, none⟩)) := hS5.cell 2 rfl 0
   rcases hcase.out with ⟨rest, hrv, rfl, rfl, hrc⟩ | ⟨hrv, rfl⟩
   ·have hlr := rv_len l tag rest hrv
    have hr' : RdH w0 M (.cells (w.heap.size + 1) #[.int .i64 0, .bool false, .int .u64 0, .slice none 0 0] 93 :: H) (.slice A1 rest.length a1) 1 rest.length (bvs rest) := fun w h => hrc w (hr w h.tail)
    by_cases h02 : (tag % 8 = 0 ∨ tag % 8 = 2) ∧ mayB (numF tag) = true
    ·obtain ⟨h02, hm⟩ := h02
     have he0 : wc.cell? ⟨b4, 0, none⟩ = some (.int .i64 (numF tag : Int)) := hS5.cell 1 rfl 0
     by_cases h0 : tag % 8 = 0
     ·rw [show takeV (tag % 8) w.heap.size b4 = .func (.func 149) #[] #[P0 w.heap.size, P0 b4] from by unfold takeV; rw [if_pos h0]]
      have C := hide (clo1_walk g w.heap.size b4 (numF tag) A1 a1 rest (by omega) hr' hS5)
      cases hv2 : rv rest with
      | ok n r =>
       rw [hv2] at C
       have FD := hide (fd_num l tag n rest r hrv h0 hm hv2)
       clear hr hr' hcase hS5 hrv hv2 hv hN h02
       unfold P0 at *
       go_wp2_with (first
        | (go_at_call 152; refine (may_any _ _).mono ?_; rintro e w' ⟨rfl, rfl⟩)
        | (go_at_call 149; refine C.out.mono ?_; rintro e w2 ⟨rfl, hw2, A2, a2, hS6, hr2⟩; have hf0 := hS6.free 3 rfl 0; have hf1 := hS6.free 3 rfl 1; have hf2 := hS6.free 3 rfl 2; have hf3 := hS6.free 3 rfl 3; have hd0 : w2.cell? ⟨w.heap.size + 1, 0, none⟩ = some (.int .i64 0) := hS6.cell 3 rfl 0; have hd1 : w2.cell? ⟨w.heap.size + 1, 1, none⟩ = some (.bool false) := hS6.cell 3 rfl 1; have hd2 : w2.cell? ⟨w.heap.size + 1, 2, none⟩ = some (.int .u64 0) := hS6.cell 3 rfl 2; have hd3 : w2.cell? ⟨w.heap.size + 1, 3, none⟩ = some (.slice none 0 0) := hS6.cell 3 rfl 3; have he0 : w2.cell? ⟨b4, 0, none⟩ = some (.int .i64 (numF tag : Int)) := hS6.cell 1 rfl 0; have he1 : w2.cell? ⟨b4, 1, none⟩ = some (.bool false) := hS6.cell 1 rfl 1; have he2 : w2.cell? ⟨b4, 2, none⟩ = some (.int .u64 (n : Int)) := hS6.cell 1 rfl 2; have he3 : w2.cell? ⟨b4, 3, none⟩ = some (.slice none 0 0) := hS6.cell 1 rfl 3))
       have hS8 := ((((hS6.setCell 3 rfl 0 (.int .i64 (numF tag : Int))).setCell 3 rfl 1 (.bool false)).setCell 3 rfl 2 (.int .u64 (n : Int))).setCell 3 rfl 3 (.slice none 0 0))
       refine bodyPost_ret (results_cell_row rfl _ _ (w.heap.size + 1) _ _ _ _ rfl (hS8.heap 3 rfl) Tryz.underlying93 rfl (by kernel_rfl)) rfl ?_
       rw [FD.out]
       have hS7 := hS8.swap.tail.swap.tail.swap.tail
       exact ⟨none, 0, rfl, A2, a2, (hS7.row (Below.refl _ _) (World.ownsRow_nil _ _ _ _)).swap, hrc.trans hr2⟩
      | bad k =>
       rw [hv2] at C
       have FD := hide (fd_numBad l tag k rest hrv h0 hm hv2)
       clear hr hr' hcase hS5 hrv hv2 hv hN h02
       unfold P0 at *
       go_wp2_with (first
        | (go_at_call 152; refine (may_any _ _).mono ?_; rintro e w' ⟨rfl, rfl⟩)
        | (go_at_call 149; refine C.out.mono ?_; rintro e w2 ⟨rfl, hS6⟩; have hf0 := hS6.free 3 rfl 0; have hf1 := hS6.free 3 rfl 1; have hf2 := hS6.free 3 rfl 2; have hf3 := hS6.free 3 rfl 3; have hd0 : w2.cell? ⟨w.heap.size + 1, 0, none⟩ = some (.int .i64 0) := hS6.cell 3 rfl 0; have hd1 : w2.cell? ⟨w.heap.size + 1, 1, none⟩ = some (.bool false) := hS6.cell 3 rfl 1; have hd2 : w2.cell? ⟨w.heap.size + 1, 2, none⟩ = some (.int .u64 0) := hS6.cell 3 rfl 2; have hd3 : w2.cell? ⟨w.heap.size + 1, 3, none⟩ = some (.slice none 0 0) := hS6.cell 3 rfl 3; have he0 : w2.cell? ⟨b4, 0, none⟩ = some (.int .i64 (numF tag : Int)) := hS6.cell 1 rfl 0; have he1 : w2.cell? ⟨b4, 1, none⟩ = some (.bool false) := hS6.cell 1 rfl 1; have he2 : w2.cell? ⟨b4, 2, none⟩ = some (.int .u64 0) := hS6.cell 1 rfl 2; have he3 : w2.cell? ⟨b4, 3, none⟩ = some (.slice none 0 0) := hS6.cell 1 rfl 3))
       have hS8 := ((((hS6.setCell 3 rfl 0 (.int .i64 (numF tag : Int))).setCell 3 rfl 1 (.bool false)).setCell 3 rfl 2 (.int .u64 0)).setCell 3 rfl 3 (.slice none 0 0))
       refine bodyPost_ret (results_cell_row rfl _ _ (w.heap.size + 1) _ _ _ _ rfl (hS8.heap 3 rfl) Tryz.underlying93 rfl (by kernel_rfl)) rfl ?_
       rw [FD.out]
       have hS7 := hS8.swap.tail.swap.tail.swap.tail
       exact ⟨_, _, _, _, _, _, rfl, _, _, _, hS7⟩
     ·have h2 : tag % 8 = 2 := by omega
      rw [show takeV (tag % 8) w.heap.size b4 = .func (.func 150) #[] #[P0 w.heap.size, P0 b4] from by unfold takeV; rw [if_neg h0, if_pos h2]]
      have C := hide (clo2_walk g w.heap.size b4 (numF tag) A1 a1 rest (by omega) hr' hS5)
      cases hv2 : rw_ rest with
      | ok b r =>
       rw [hv2] at C
       have FD := hide (fd_raw l tag rest b r hrv h2 hm hv2)
       clear hr hr' hcase hS5 hrv hv2 hv hN h02
       unfold P0 at *
       go_wp2_with (first
        | (go_at_call 152; refine (may_any _ _).mono ?_; rintro e w' ⟨rfl, rfl⟩)
        | (go_at_call 150; refine C.out.mono ?_; rintro e w2 ⟨rfl, B, d, A2, a2, hS6, hr2⟩; have hf0 := hS6.free 4 rfl 0; have hf1 := hS6.free 4 rfl 1; have hf2 := hS6.free 4 rfl 2; have hf3 := hS6.free 4 rfl 3; have hd0 : w2.cell? ⟨w.heap.size + 1, 0, none⟩ = some (.int .i64 0) := hS6.cell 4 rfl 0; have hd1 : w2.cell? ⟨w.heap.size + 1, 1, none⟩ = some (.bool false) := hS6.cell 4 rfl 1; have hd2 : w2.cell? ⟨w.heap.size + 1, 2, none⟩ = some (.int .u64 0) := hS6.cell 4 rfl 2; have hd3 : w2.cell? ⟨w.heap.size + 1, 3, none⟩ = some (.slice none 0 0) := hS6.cell 4 rfl 3; have he0 : w2.cell? ⟨b4, 0, none⟩ = some (.int .i64 (numF tag : Int)) := hS6.cell 2 rfl 0; have he1 : w2.cell? ⟨b4, 1, none⟩ = some (.bool true) := hS6.cell 2 rfl 1; have he2 : w2.cell? ⟨b4, 2, none⟩ = some (.int .u64 0) := hS6.cell 2 rfl 2; have he3 : w2.cell? ⟨b4, 3, none⟩ = some (.slice B b.length d) := hS6.cell 2 rfl 3))
       have hS8 := ((((hS6.setCell 4 rfl 0 (.int .i64 (numF tag : Int))).setCell 4 rfl 1 (.bool true)).setCell 4 rfl 2 (.int .u64 0)).setCell 4 rfl 3 (.slice B b.length d))
       refine bodyPost_ret (results_cell_row rfl _ _ (w.heap.size + 1) _ _ _ _ rfl (hS8.heap 4 rfl) Tryz.underlying93 rfl (by kernel_rfl)) rfl ?_
       rw [FD.out]
       have hS7 := hS8.mid2.mid2.mid2
       exact ⟨B, d, rfl, A2, a2, hS7, hrc.trans hr2⟩
      | bad k =>
       rw [hv2] at C
       have FD := hide (fd_rawBad l tag k rest hrv h2 hm hv2)
       clear hr hr' hcase hS5 hrv hv2 hv hN h02
       unfold P0 at *
       go_wp2_with (first
        | (go_at_call 152; refine (may_any _ _).mono ?_; rintro e w' ⟨rfl, rfl⟩)
        | (go_at_call 150; refine C.out.mono ?_; rintro e w2 ⟨rfl, A2, n2, a2, hS6⟩; have hf0 := hS6.free 3 rfl 0; have hf1 := hS6.free 3 rfl 1; have hf2 := hS6.free 3 rfl 2; have hf3 := hS6.free 3 rfl 3; have hd0 : w2.cell? ⟨w.heap.size + 1, 0, none⟩ = some (.int .i64 0) := hS6.cell 3 rfl 0; have hd1 : w2.cell? ⟨w.heap.size + 1, 1, none⟩ = some (.bool false) := hS6.cell 3 rfl 1; have hd2 : w2.cell? ⟨w.heap.size + 1, 2, none⟩ = some (.int .u64 0) := hS6.cell 3 rfl 2; have hd3 : w2.cell? ⟨w.heap.size + 1, 3, none⟩ = some (.slice none 0 0) := hS6.cell 3 rfl 3; have he0 : w2.cell? ⟨b4, 0, none⟩ = some (.int .i64 (numF tag : Int)) := hS6.cell 1 rfl 0; have he1 : w2.cell? ⟨b4, 1, none⟩ = some (.bool true) := hS6.cell 1 rfl 1; have he2 : w2.cell? ⟨b4, 2, none⟩ = some (.int .u64 0) := hS6.cell 1 rfl 2; have he3 : w2.cell? ⟨b4, 3, none⟩ = some (.slice none 0 0) := hS6.cell 1 rfl 3))
       have hS8 := ((((hS6.setCell 3 rfl 0 (.int .i64 (numF tag : Int))).setCell 3 rfl 1 (.bool true)).setCell 3 rfl 2 (.int .u64 0)).setCell 3 rfl 3 (.slice none 0 0))
       refine bodyPost_ret (results_cell_row rfl _ _ (w.heap.size + 1) _ _ _ _ rfl (hS8.heap 3 rfl) Tryz.underlying93 rfl (by kernel_rfl)) rfl ?_
       rw [FD.out]
       have hS7 := hS8.swap.tail.swap.tail.swap.tail
       exact ⟨_, _, _, _, _, _, rfl, _, _, _, hS7⟩
    ·have FD := hide (fd_no l tag rest hrv h02)
     have hf0 := hS5.free 3 rfl 0
     have hf1 := hS5.free 3 rfl 1
     have hf2 := hS5.free 3 rfl 2
     have hf3 := hS5.free 3 rfl 3
     have hd0 : wc.cell? ⟨w.heap.size + 1, 0, none⟩ = some (.int .i64 0) := hS5.cell 3 rfl 0
     have hd1 : wc.cell? ⟨w.heap.size + 1, 1, none⟩ = some (.bool false) := hS5.cell 3 rfl 1
     have hd2 : wc.cell? ⟨w.heap.size + 1, 2, none⟩ = some (.int .u64 0) := hS5.cell 3 rfl 2
     have hd3 : wc.cell? ⟨w.heap.size + 1, 3, none⟩ = some (.slice none 0 0) := hS5.cell 3 rfl 3
     have he0 : wc.cell? ⟨b4, 0, none⟩ = some (.int .i64 (numF tag : Int)) := hS5.cell 1 rfl 0
     have he1 : wc.cell? ⟨b4, 1, none⟩ = some (.bool false) := hS5.cell 1 rfl 1
     have he2 : wc.cell? ⟨b4, 2, none⟩ = some (.int .u64 0) := hS5.cell 1 rfl 2
     have he3 : wc.cell? ⟨b4, 3, none⟩ = some (.slice none 0 0) := hS5.cell 1 rfl 3
     have hg1 := hS5.free 0 rfl 1
     have hx1 := hS5.ne 0 1 (by decide) rfl rfl
     have hx2 := hS5.ne 1 0 (by decide) rfl rfl
     have hx3 := hS5.ne 0 3 (by decide) rfl rfl
     have hx4 := hS5.ne 3 0 (by decide) rfl rfl
     clear hr hr' hcase hrv hv hN
     cases hm : mayB (numF tag)
     ·by_cases h0 : tag % 8 = 0
      ·rw [show takeV (tag % 8) w.heap.size b4 = .func (.func 149) #[] #[P0 w.heap.size, P0 b4] from by unfold takeV; rw [if_pos h0]]
       unfold P0 at *
       go_wp2_with (go_at_call 152; refine (may_any _ _).mono ?_; rintro e w' ⟨rfl, rfl⟩)
       have hS8 := (((((hS5.setCell 0 rfl 1 (.int .i64 3)).setCell 3 rfl 0 (.int .i64 (numF tag : Int))).setCell 3 rfl 1 (.bool false)).setCell 3 rfl 2 (.int .u64 0)).setCell 3 rfl 3 (.slice none 0 0))
       refine bodyPost_ret (results_cell_row rfl _ _ (w.heap.size + 1) _ _ _ _ rfl (hS8.heap 3 rfl) Tryz.underlying93 rfl (by kernel_rfl)) rfl ?_
       rw [FD.out]
       exact ⟨_, _, _, _, _, _, rfl, _, _, _, hS8.swap.tail.swap.tail.swap.tail⟩
      ·by_cases h2 : tag % 8 = 2
       ·rw [show takeV (tag % 8) w.heap.size b4 = .func (.func 150) #[] #[P0 w.heap.size, P0 b4] from by unfold takeV; rw [if_neg h0, if_pos h2]]
        unfold P0 at *
        go_wp2_with (go_at_call 152; refine (may_any _ _).mono ?_; rintro e w' ⟨rfl, rfl⟩)
        have hS8 := (((((hS5.setCell 0 rfl 1 (.int .i64 3)).setCell 3 rfl 0 (.int .i64 (numF tag : Int))).setCell 3 rfl 1 (.bool false)).setCell 3 rfl 2 (.int .u64 0)).setCell 3 rfl 3 (.slice none 0 0))
        refine bodyPost_ret (results_cell_row rfl _ _ (w.heap.size + 1) _ _ _ _ rfl (hS8.heap 3 rfl) Tryz.underlying93 rfl (by kernel_rfl)) rfl ?_
        rw [FD.out]
        exact ⟨_, _, _, _, _, _, rfl, _, _, _, hS8.swap.tail.swap.tail.swap.tail⟩
       ·rw [show takeV (tag % 8) w.heap.size b4 = .nilFunc from by unfold takeV; rw [if_neg h0, if_neg h2]]
        go_wp2_with fail
        have hS8 := (((((hS5.setCell 0 rfl 1 (.int .i64 3)).setCell 3 rfl 0 (.int .i64 (numF tag : Int))).setCell 3 rfl 1 (.bool false)).setCell 3 rfl 2 (.int .u64 0)).setCell 3 rfl 3 (.slice none 0 0))
        refine bodyPost_ret (results_cell_row rfl _ _ (w.heap.size + 1) _ _ _ _ rfl (hS8.heap 3 rfl) Tryz.underlying93 rfl (by kernel_rfl)) rfl ?_
        rw [FD.out]
        exact ⟨_, _, _, _, _, _, rfl, _, _, _, hS8.swap.tail.swap.tail.swap.tail⟩
     ·have h0 : ¬ tag % 8 = 0 := fun h => h02 ⟨.inl h, hm⟩
      have h2 : ¬ tag % 8 = 2 := fun h => h02 ⟨.inr h, hm⟩
      rw [show takeV (tag % 8) w.heap.size b4 = .nilFunc from by unfold takeV; rw [if_neg h0, if_neg h2]]
      go_wp2_with fail
      have hS8 := (((((hS5.setCell 0 rfl 1 (.int .i64 3)).setCell 3 rfl 0 (.int .i64 (numF tag : Int))).setCell 3 rfl 1 (.bool false)).setCell 3 rfl 2 (.int .u64 0)).setCell 3 rfl 3 (.slice none 0 0))
      refine bodyPost_ret (results_cell_row rfl _ _ (w.heap.size + 1) _ _ _ _ rfl (hS8.heap 3 rfl) Tryz.underlying93 rfl (by kernel_rfl)) rfl ?_
      rw [FD.out]
      exact ⟨_, _, _, _, _, _, rfl, _, _, _, hS8.swap.tail.swap.tail.swap.tail⟩
   ·have hk := rv_bads l ek hrv
    have hk2 : ((ek : Int) != 0) = true := by rcases hk with rfl | rfl <;> rfl
    have hf0 := hS5.free 3 rfl 0
    have hf1 := hS5.free 3 rfl 1
    have hf2 := hS5.free 3 rfl 2
    have hf3 := hS5.free 3 rfl 3
    have hd0 : wc.cell? ⟨w.heap.size + 1, 0, none⟩ = some (.int .i64 0) := hS5.cell 3 rfl 0
    have hd1 : wc.cell? ⟨w.heap.size + 1, 1, none⟩ = some (.bool false) := hS5.cell 3 rfl 1
    have hd2 : wc.cell? ⟨w.heap.size + 1, 2, none⟩ = some (.int .u64 0) := hS5.cell 3 rfl 2
    have hd3 : wc.cell? ⟨w.heap.size + 1, 3, none⟩ = some (.slice none 0 0) := hS5.cell 3 rfl 3
    have he0 : wc.cell? ⟨b4, 0, none⟩ = some (.int .i64 (numF 0 : Int)) := hS5.cell 1 rfl 0
    have he1 : wc.cell? ⟨b4, 1, none⟩ = some (.bool false) := hS5.cell 1 rfl 1
    have he2 : wc.cell? ⟨b4, 2, none⟩ = some (.int .u64 0) := hS5.cell 1 rfl 2
    have he3 : wc.cell? ⟨b4, 3, none⟩ = some (.slice none 0 0) := hS5.cell 1 rfl 3
    go_wp2_with fail
    have hS8 := ((((hS5.setCell 3 rfl 0 (.int .i64 (numF 0 : Int))).setCell 3 rfl 1 (.bool false)).setCell 3 rfl 2 (.int .u64 0)).setCell 3 rfl 3 (.slice none 0 0))
    refine bodyPost_ret (results_cell_row rfl _ _ (w.heap.size + 1) _ _ _ _ rfl (hS8.heap 3 rfl) Tryz.underlying93 rfl (by kernel_rfl)) rfl ?_
    rw [fd_bad l ek hrv]
    exact ⟨_, _, _, _, _, _, rfl, _, _, _, hS8.swap.tail.swap.tail.swap.tail⟩
end Go.Proofs.YtnohmgpmmhlloaaGreatDoor.S6

namespace Go.Proofs.YtnohmgpmmhlloaaGreatDoor.S6
set_option maxRecDepth 100000
open Go.RowKit

theorem rw_len (l b r : List UInt8) (h : rw_ l = .ok b r) : r.length < l.length := by
 cases hv : rv l with
 | bad k => rw [rw_bad l k hv] at h; cases h
 | ok n rest =>
  have := rv_len l n rest hv
  by_cases hn : n ≤ rest.length
  ·rw [rw_ok l n rest hv hn] at h
   injection h with _ h
   subst h
   rw [List.length_drop]
   omega
  ·rw [rw_short l n rest hv hn] at h; cases h
theorem rw_bads (l : List UInt8) (k : Nat) (h : rw_ l = .bad k) : k = 2 ∨ k = 3 := by
 cases hv : rv l with
 | bad j => rw [rw_bad l j hv] at h; injection h with h; subst h; exact rv_bads l _ hv
 | ok n rest =>
  by_cases hn : n ≤ rest.length
  ·rw [rw_ok l n rest hv hn] at h; cases h
  ·rw [rw_short l n rest hv hn] at h; injection h with h; exact .inl h.symm
theorem fd_len (l : List UInt8) (f : FdV) (r : List UInt8) (h : fd l = .ok f r) : r.length < l.length := by
 cases hv : rv l with
 | bad k => rw [fd_bad l k hv] at h; cases h
 | ok tag rest =>
  have h1 := rv_len l tag rest hv
  by_cases hc : (tag % 8 = 0 ∨ tag % 8 = 2) ∧ mayB (numF tag) = true
  ·by_cases h0 : tag % 8 = 0
   ·cases h2 : rv rest with
    | bad k => rw [fd_numBad l tag k rest hv h0 hc.2 h2] at h; cases h
    | ok n r' =>
     rw [fd_num l tag n rest r' hv h0 hc.2 h2] at h
     injection h with _ h
     subst h
     have := rv_len rest n r' h2
     omega
   ·have h0' : tag % 8 = 2 := by omega
    cases h2 : rw_ rest with
    | bad k => rw [fd_rawBad l tag k rest hv h0' hc.2 h2] at h; cases h
    | ok b r' =>
     rw [fd_raw l tag rest b r' hv h0' hc.2 h2] at h
     injection h with _ h
     subst h
     have := rw_len rest b r' h2
     omega
  ·rw [fd_no l tag rest hv hc] at h; cases h
theorem fd_bads (l : List UInt8) (k : Nat) (h : fd l = .bad k) : k = 2 ∨ k = 3 := by
 cases hv : rv l with
 | bad j => rw [fd_bad l j hv] at h; injection h with h; subst h; exact rv_bads l _ hv
 | ok tag rest =>
  by_cases hc : (tag % 8 = 0 ∨ tag % 8 = 2) ∧ mayB (numF tag) = true
  ·by_cases h0 : tag % 8 = 0
   ·cases h2 : rv rest with
    | bad j => rw [fd_numBad l tag j rest hv h0 hc.2 h2] at h; injection h with h; subst h; exact rv_bads rest _ h2
    | ok n r' => rw [fd_num l tag n rest r' hv h0 hc.2 h2] at h; cases h
   ·have h0' : tag % 8 = 2 := by omega
    cases h2 : rw_ rest with
    | bad j => rw [fd_rawBad l tag j rest hv h0' hc.2 h2] at h; injection h with h; subst h; exact rw_bads rest _ h2
    | ok b r' => rw [fd_raw l tag rest b r' hv h0' hc.2 h2] at h; cases h
  ·rw [fd_no l tag rest hv hc] at h; injection h with h; exact .inr h.symm

inductive FsR where
 | ok (l : List FdV)
 | bad (e : Nat)
def FsR.pre (fs : List FdV) : FsR → FsR
 | .ok l => .ok (fs ++ l)
 | .bad k => .bad k
theorem FsR.pre_nil (r : FsR) : r.pre [] = r := by cases r <;> rfl
theorem FsR.pre_pre (fs gs : List FdV) (r : FsR) : (r.pre gs).pre fs = r.pre (fs ++ gs) := by cases r <;> simp [FsR.pre]
def fdsF : Nat → List UInt8 → FsR
 | 0, _ => .ok []
 | n + 1, l =>
  if l = [] then .ok [] else
  match fd l with
  | .bad k => .bad k
  | .ok f r => (fdsF n r).pre [f]
theorem fdsF_fuel : ∀ (n m : Nat) (l : List UInt8), l.length ≤ n → l.length ≤ m → fdsF n l = fdsF m l
 | 0, m, l, h, _ => by
  have : l = [] := List.eq_nil_of_length_eq_zero (by omega)
  subst this
  cases m <;> simp [fdsF]
 | n + 1, 0, l, _, h => by
  have : l = [] := List.eq_nil_of_length_eq_zero (by omega)
  subst this
  simp [fdsF]
 | n + 1, m + 1, l, h1, h2 => by
  unfold fdsF
  by_cases hl : l = []
  ·rw [if_pos hl, if_pos hl]
  ·rw [if_neg hl, if_neg hl]
   cases hf : fd l with
   | bad k => rfl
   | ok f r =>
    have := fd_len l f r hf
    simp only
    rw [fdsF_fuel n m r (by omega) (by omega)]
@[irreducible] def fds (l : List UInt8) : FsR := fdsF l.length l
theorem fds_nil : fds [] = .ok [] := by unfold fds; rfl
theorem fds_bad (l : List UInt8) (k : Nat) (hl : l ≠ []) (h : fd l = .bad k) : fds l = .bad k := by
 unfold fds
 obtain ⟨n, hn⟩ : ∃ n, l.length = n + 1 := ⟨l.length - 1, by have := List.length_pos_iff.2 hl; omega⟩
 rw [hn, fdsF, if_neg hl, h]
theorem fds_ok (l : List UInt8) (f : FdV) (r : List UInt8) (hl : l ≠ []) (h : fd l = .ok f r) : fds l = (fds r).pre [f] := by
 unfold fds
 obtain ⟨n, hn⟩ : ∃ n, l.length = n + 1 := ⟨l.length - 1, by have := List.length_pos_iff.2 hl; omega⟩
 have := fd_len l f r h
 rw [hn, fdsF, if_neg hl, h]
 simp only
 rw [fdsF_fuel n r.length r (by omega) (by omega)]

structure FdL where
 f : FdV
 A : Option Addr
 c : Nat
def FdL.cells (x : FdL) : List Value := [.int .i64 (x.f.num : Int), .bool x.f.whole, .int .u64 (x.f.n : Int), .slice x.A x.f.b.length x.c]
def FdL.chunk (x : FdL) : Chunk := .row (.slice x.A x.f.b.length x.c) 5 1 x.f.b.length (bvs x.f.b)
def cellsF (xs : List FdL) : List Value := xs.flatMap FdL.cells
def chunksF (xs : List FdL) : List Chunk := (xs.map FdL.chunk).reverse
theorem cellsF_snoc (xs : List FdL) (x : FdL) : cellsF (xs ++ [x]) = cellsF xs ++ x.cells := by simp [cellsF]
theorem chunksF_snoc (xs : List FdL) (x : FdL) : chunksF (xs ++ [x]) = x.chunk :: chunksF xs := by simp [chunksF]
def ResF (e : TypeId) (w : World) : FsR → Ending → World → Prop
 | .ok fs, r, w' => ∃ (xs : List FdL) (A : Option Addr) (c : Nat), r = .returned (.tuple #[.slice A xs.length c, .int .i64 0]) ∧ xs.map FdL.f = fs ∧ St w NoB w' (.row (.slice A xs.length c) e 4 xs.length (cellsF xs) :: chunksF xs)
 | .bad k, r, w' => r = .returned (.tuple #[.slice none 0 0, .int .i64 (k : Int)]) ∧ Below w.heap.size w w'
end Go.Proofs.YtnohmgpmmhlloaaGreatDoor.S6

namespace Go.Proofs.YtnohmgpmmhlloaaGreatDoor.S6
set_option maxRecDepth 100000
open Go.RowKit

theorem pow7 (i : Nat) : 2 ^ (7 * (i + 1)) = 128 * 2 ^ (7 * i) := by
 rw [show 7 * (i + 1) = 7 * i + 7 from by omega, Nat.pow_add, Nat.mul_comm]
theorem split7 (m P : Nat) : m % 128 * P + m / 128 * (128 * P) = m * P := by
 rw [← Nat.mul_assoc, ← Nat.add_mul]
 congr 1
 omega
theorem ofNat_toNat (m : Nat) (h : m < 256) : (UInt8.ofNat m).toNat = m := by
 rw [UInt8.toNat_ofNat', Nat.mod_eq_of_lt (by omega)]

theorem rvF_vbF : ∀ (f i m acc : Nat) (r : List UInt8), f + i = 9 → m < 2 ^ (7 * f + 1) → (0 < i → 0 < m) → rvF (vbF f m ++ r) i acc = .ok (acc + m * 2 ^ (7 * i)) r
 | 0, i, m, acc, r, hi, hm, h0 => by
  have hm2 : m < 2 := hm
  simp only [vbF, List.cons_append, List.nil_append, rvF, ofNat_toNat m (by omega)]
  rw [if_neg (by omega), if_pos (by omega)]
 | f + 1, i, m, acc, r, hi, hm, h0 => by
  simp only [vbF]
  by_cases h : m < 128
  ·rw [if_pos h]
   simp only [List.cons_append, List.nil_append, rvF, ofNat_toNat m (by omega)]
   rw [if_neg (by omega), if_pos (by omega)]
  ·rw [if_neg h]
   simp only [List.cons_append, rvF, ofNat_toNat (m % 128 + 128) (by omega)]
   rw [if_neg (by omega), if_neg (by omega)]
   have hm' : m / 128 < 2 ^ (7 * f + 1) := by
    rw [show 7 * (f + 1) + 1 = (7 * f + 1) + 7 from by omega, Nat.pow_add] at hm
    omega
   rw [rvF_vbF f (i + 1) (m / 128) _ r (by omega) hm' (by omega), pow7, Nat.add_assoc, show m % 128 + 128 - 128 = m % 128 from by omega, split7]
theorem rv_vb (n : Nat) (r : List UInt8) (h : W64 n) : rv (vb n ++ r) = .ok n r := by
 rw [rv_eq, vb_eq, rvF_vbF 9 0 n 0 r (by omega) h (by omega)]
 simp
theorem rvF_inv : ∀ (l : List UInt8) (f i acc v : Nat) (r : List UInt8), f + i = 9 → rvF l i acc = .ok v r →
  ∃ m, l = vbF f m ++ r ∧ v = acc + m * 2 ^ (7 * i) ∧ m < 2 ^ (7 * f + 1) ∧ (0 < i → 0 < m)
 | [], f, i, acc, v, r, hi, h => by simp [rvF] at h
 | c :: b, f, i, acc, v, r, hi, h => by
  simp only [rvF] at h
  have hc : c.toNat < 256 := UInt8.toNat_lt c
  by_cases hb : (i = 9 ∧ 1 < c.toNat) ∨ (0 < i ∧ c.toNat = 0)
  ·rw [if_pos hb] at h; cases h
  ·rw [if_neg hb] at h
   by_cases h1 : c.toNat < 128
   ·rw [if_pos h1] at h
    injection h with hv hr
    refine ⟨c.toNat, ?_, hv.symm, ?_, by omega⟩
    ·have hcc : UInt8.ofNat c.toNat = c := by simp
     cases f <;> simp [vbF, h1, hr]
    ·cases f with
     | zero => simp; omega
     | succ f =>
      have : (2 : Nat) ^ 8 ≤ 2 ^ (7 * (f + 1) + 1) := Nat.pow_le_pow_right (by omega) (by omega)
      omega
   ·rw [if_neg h1] at h
    cases f with
    | zero => omega
    | succ f =>
     obtain ⟨m, hl, hv, hm, h0⟩ := rvF_inv b f (i + 1) _ v r (by omega) h
     have hm0 := h0 (by omega)
     refine ⟨m * 128 + (c.toNat - 128), ?_, ?_, ?_, by omega⟩
     ·simp only [vbF]
      rw [if_neg (by omega), show (m * 128 + (c.toNat - 128)) % 128 + 128 = c.toNat from by omega, show (m * 128 + (c.toNat - 128)) / 128 = m from by omega, hl]
      simp
     ·rw [hv, pow7, Nat.add_assoc]
      congr 1
      have := split7 (m * 128 + (c.toNat - 128)) (2 ^ (7 * i))
      rw [show (m * 128 + (c.toNat - 128)) % 128 = c.toNat - 128 from by omega, show (m * 128 + (c.toNat - 128)) / 128 = m from by omega] at this
      exact this
     ·rw [show 7 * (f + 1) + 1 = (7 * f + 1) + 7 from by omega, Nat.pow_add]
      omega
theorem rv_inv (l : List UInt8) (v : Nat) (r : List UInt8) (h : rv l = .ok v r) : W64 v ∧ l = vb v ++ r := by
 rw [rv_eq] at h
 obtain ⟨m, hl, hv, hm, _⟩ := rvF_inv l 9 0 0 v r (by omega) h
 have : v = m := by simpa using hv
 subst this
 exact ⟨hm, by rw [vb_eq]; exact hl⟩

theorem mayB_iff (num : Int) : mayB num = true ↔ 1 ≤ num ∧ num ≤ 100 := by unfold mayB; simp
theorem numF_tag (num : Int) (w : Nat) (h : mayB num = true) (hw : w < 8) : ((numF (8 * num.toNat + w) : Nat) : Int) = num ∧ numF (8 * num.toNat + w) = num.toNat := by
 have := (mayB_iff num).1 h
 unfold numF
 omega
theorem w64_small (n : Nat) (h : n ≤ 1000000) : W64 n := by unfold W64; omega
theorem rw_put (b r : List UInt8) (h : b.length ≤ 65536) : rw_ (vb b.length ++ (b ++ r)) = .ok b r := by
 rw [rw_ok _ b.length (b ++ r) (rv_vb _ _ (w64_small _ (by omega))) (by simp)]
 simp
theorem fd_putR (num : Int) (b r : List UInt8) (h : mayB num = true) (hb : b.length ≤ 65536) : fd (putR num b ++ r) = .ok ⟨num.toNat, true, 0, b⟩ r := by
 have hm := (mayB_iff num).1 h
 obtain ⟨e1, e2⟩ := numF_tag num 2 h (by omega)
 rw [putR_yes num b h hb, List.append_assoc, List.append_assoc]
 have := fd_raw _ (8 * num.toNat + 2) (vb b.length ++ (b ++ r)) b r (rv_vb _ _ (w64_small _ (by omega))) (by omega) (by rw [e1]; exact h) (rw_put b r hb)
 rw [this, e2]
theorem vb_ne (n : Nat) : vb n ≠ [] := fun h => by have := (vb_len n).2; rw [h] at this; simp at this
theorem putR_ne (num : Int) (b : List UInt8) (h : mayB num = true) (hb : b.length ≤ 65536) : putR num b ≠ [] := by
 rw [putR_yes num b h hb]
 simp [vb_ne]

def putF (f : FdV) : List UInt8 := if f.whole then putR f.num f.b else putI f.num f.n
structure FdOK (f : FdV) : Prop where
 may : mayB f.num = true
 n : W64 f.n
theorem fd_inv (l : List UInt8) (f : FdV) (r : List UInt8) (hl : l.length ≤ 65536) (h : fd l = .ok f r) : l = putF f ++ r ∧ FdOK f ∧ f.b.length + r.length ≤ l.length := by
 cases hv : rv l with
 | bad k => rw [fd_bad l k hv] at h; cases h
 | ok tag rest =>
  obtain ⟨hw, hl1⟩ := rv_inv l tag rest hv
  have hlen := rv_len l tag rest hv
  by_cases hc : (tag % 8 = 0 ∨ tag % 8 = 2) ∧ mayB (numF tag) = true
  ·obtain ⟨hc, hm⟩ := hc
   have hm' := (mayB_iff _).1 hm
   have ht : numF tag = tag / 8 := by
    have h2 : numF tag ≤ 100 := by omega
    unfold numF at h2 ⊢
    omega
   by_cases h0 : tag % 8 = 0
   ·cases h2 : rv rest with
    | bad k => rw [fd_numBad l tag k rest hv h0 hm h2] at h; cases h
    | ok n r' =>
     rw [fd_num l tag n rest r' hv h0 hm h2] at h
     injection h with hf hr
     subst hr
     subst hf
     obtain ⟨hw2, hl2⟩ := rv_inv rest n r' h2
     have := rv_len rest n r' h2
     refine ⟨?_, ⟨hm, hw2⟩, by simp; omega⟩
     unfold putF
     rw [if_neg (by simp), putI_yes _ _ hm, List.append_assoc, ← hl2, show 8 * ((numF tag : Nat) : Int).toNat = tag from by omega]
     exact hl1
   ·have h0' : tag % 8 = 2 := by omega
    cases h2 : rw_ rest with
    | bad k => rw [fd_rawBad l tag k rest hv h0' hm h2] at h; cases h
    | ok b r' =>
     rw [fd_raw l tag rest b r' hv h0' hm h2] at h
     injection h with hf hr
     subst hr
     subst hf
     cases h3 : rv rest with
     | bad k => rw [rw_bad rest k h3] at h2; cases h2
     | ok n rest2 =>
      obtain ⟨hw2, hl2⟩ := rv_inv rest n rest2 h3
      have := rv_len rest n rest2 h3
      by_cases hn : n ≤ rest2.length
      ·rw [rw_ok rest n rest2 h3 hn] at h2
       injection h2 with hb hr
       have hbl : b.length = n := by rw [← hb, List.length_take]; omega
       have hcat : rest2 = b ++ r' := by rw [← hb, ← hr, List.take_append_drop]
       have hlen2 : rest2.length = b.length + r'.length := by rw [hcat, List.length_append]
       refine ⟨?_, ⟨hm, by unfold W64; dsimp only; omega⟩, by dsimp only; omega⟩
       unfold putF
       rw [if_pos rfl, putR_yes _ _ hm (by dsimp only; omega)]
       dsimp only
       rw [hbl, List.append_assoc, List.append_assoc, ← hcat, ← hl2, show 8 * ((numF tag : Nat) : Int).toNat + 2 = tag from by omega]
       exact hl1
      ·rw [rw_short rest n rest2 h3 hn] at h2; cases h2
  ·rw [fd_no l tag rest hv hc] at h; cases h
theorem fds_inv : ∀ (n : Nat) (l : List UInt8) (fs : List FdV), l.length ≤ n → l.length ≤ 65536 → fds l = .ok fs → l = fs.flatMap putF ∧ ∀ f ∈ fs, FdOK f ∧ f.b.length ≤ l.length
 | n, [], fs, _, _, h => by
  rw [fds_nil] at h
  injection h with h
  subst h
  exact ⟨rfl, fun f hf => by cases hf⟩
 | 0, c :: l, fs, hn, _, h => by simp at hn
 | n + 1, c :: l, fs, hn, hl, h => by
  cases hf : fd (c :: l) with
  | bad k => rw [fds_bad _ k (by simp) hf] at h; cases h
  | ok f r =>
   rw [fds_ok _ f r (by simp) hf] at h
   obtain ⟨h1, h2, h3⟩ := fd_inv _ f r hl hf
   have hlr := fd_len _ f r hf
   cases hr : fds r with
   | bad k => rw [hr] at h; cases h
   | ok gs =>
    rw [hr] at h
    injection h with h
    obtain ⟨h4, h5⟩ := fds_inv n r gs (by omega) (by omega) hr
    subst h
    refine ⟨by rw [h1]; simp [← h4], fun g hg => ?_⟩
    rcases List.mem_cons.1 (by simpa using hg) with rfl | hg
    ·exact ⟨h2, by omega⟩
    ·have := h5 g hg
     exact ⟨this.1, by omega⟩

end Go.Proofs.YtnohmgpmmhlloaaGreatDoor.S6
