/-
  Joined of texts of mine, in build order: Af, Ae, Ag, Ah, Ai, Mc, Me, Mg, Mh, Aj, Al, Lift, Opg, Oq, Lm. Each says what it proves at its own head.
-/
import Derived.ProofKit
import Derived.OpenShut
import Derived.SizedLaws
import Derived.Carry
import Derived.Deep.Fields
import Derived.Deep.Slices
import Derived.ShutString
import Derived.Test.YtnohmgpmmhlloaaGreatDoorRows
import Derived.LaidMore
import Derived.Stop.Joined
import Derived.Test.YtnohmgpmmhlloaaGreatDoorPf
set_option linter.unusedSimpArgs false
set_option linter.unusedVariables false

namespace Go.Proofs.YtnohmgpmmhlloaaGreatDoor
open Go.RowKit
set_option linter.unusedSimpArgs false
theorem concat3 {A1 A2 A3 : Option Addr} {m1 m2 m3 c1 c2 c3 : Nat} {x1 x2 x3 : List UInt8} (w : World) (h1 : x1.length = m1) (h2 : x2.length = m2) (h3 : x3.length = m3) (hm : m1 + (m2 + m3) ≤ 900000) (r1 : Rd w (.slice A1 m1 c1) 1 m1 (bvs x1)) (r2 : Rd w (.slice A2 m2 c2) 1 m2 (bvs x2)) (r3 : Rd w (.slice A3 m3 c3) 1 m3 (bvs x3)) :
    Calls Tryz.prog 50 #[.slice (some ⟨w.heap.size, 0, none⟩) 3 3] (w.alloc (.cells #[.slice A1 m1 c1, .slice A2 m2 c2, .slice A3 m3 c3] 22)) (BN (m1 + (m2 + m3)) (w.alloc (.cells #[.slice A1 m1 c1, .slice A2 m2 c2, .slice A3 m3 c3] 22)) (x1 ++ (x2 ++ x3))) := by
  obtain ⟨ps, p1, p2, p3, p4⟩ := three_ps (o := .cells #[.slice A1 m1 c1, .slice A2 m2 c2, .slice A3 m3 c3] 22) h1 h2 h3 r1 r2 r3
  have := concat_any _ 3 3 ps _ p1 (by rw [p2, List.length_append, List.length_append, h1, h2, h3]; exact hm) (by rw [p3]; exact rd_new w [.slice A1 m1 c1, .slice A2 m2 c2, .slice A3 m3 c3] 22 1 3 rfl (by decide)) p4
  rw [p2, len_add3 h1 h2 h3] at this
  exact this
set_option maxRecDepth 100000 in
set_option maxHeartbeats 1600000 in
theorem message_core (A1 : Option Addr) (n1 c1 : Nat) (l1 : List UInt8) (A2 : Option Addr) (n2 c2 : Nat) (l2 : List UInt8) (A3 : Option Addr) (n3 c3 : Nat) (l3 : List UInt8) (A4 : Option Addr) (n4 c4 : Nat) (l4 : List UInt8) (A5 : Option Addr) (n5 c5 : Nat) (l5 : List UInt8) (w : World) (hl1 : l1.length = n1) (hn1 : n1 ≤ 70000) (hr1 : Rd w (.slice A1 n1 c1) 1 n1 (bvs l1)) (hl2 : l2.length = n2) (hn2 : n2 ≤ 70000) (hr2 : Rd w (.slice A2 n2 c2) 1 n2 (bvs l2)) (hl3 : l3.length = n3) (hn3 : n3 ≤ 70000) (hr3 : Rd w (.slice A3 n3 c3) 1 n3 (bvs l3)) (hl4 : l4.length = n4) (hn4 : n4 ≤ 70000) (hr4 : Rd w (.slice A4 n4 c4) 1 n4 (bvs l4)) (hl5 : l5.length = n5) (hn5 : n5 ≤ 70000) (hr5 : Rd w (.slice A5 n5 c5) 1 n5 (bvs l5)) :
    Calls Tryz.prog 73 #[.agg #[.slice A1 n1 c1, .slice A2 n2 c2, .slice A3 n3 c3, .slice A4 n4 c4, .slice A5 n5 c5]] w (BN (n1 + (n5 + n2)) w (l1 ++ (l5 ++ l2))) := by
  have hS0 := (St.init w NoB).alloc #[.slice A1 n1 c1, .slice A2 n2 c2, .slice A3 n3 c3, .slice A4 n4 c4, .slice A5 n5 c5] 32
  have HS := hide hS0
  clear hS0
  have HR1 := hide hr1
  have HL1 := hide hl1
  have HR2 := hide hr2
  have HL2 := hide hl2
  have HR3 := hide hr3
  have HL3 := hide hl3
  have HR4 := hide hr4
  have HL4 := hide hl4
  have HR5 := hide hr5
  have HL5 := hide hl5
  clear hr1 hl1 hr2 hl2 hr3 hl3 hr4 hl4 hr5 hl5
  go_enter Tryz.func73, Tryz.ntmps73
  go_upto_region 1 with fail
  generalize World.alloc w _ = wb at HS ⊢
  have t1 := HS.out.cell 0 rfl 0
  have t2 := HS.out.cell 0 rfl 1
  have t3 := HS.out.cell 0 rfl 2
  have t4 := HS.out.cell 0 rfl 3
  have t5 := HS.out.cell 0 rfl 4
  go_wp2_with (go_at_call 50; (with_reducible refine (concat3 _ HL1.out HL5.out HL2.out (by omega) (HR1.out.below HS.out.below) (HR5.out.below HS.out.below) (HR2.out.below HS.out.below)).mono ?_); rintro e wy ⟨B, d, rfl, hb, ho⟩; have HS := hide ((HS.out.skip _).row hb ho); clear ho)
  go_ret
  exact ⟨_, _, rfl, HS.out.below, HS.out.ownsRow 0 rfl⟩
set_option maxRecDepth 100000 in
set_option maxHeartbeats 1600000 in
theorem signed_core (Ay Ax : Option Addr) (cy cx : Nat) (y nx : List UInt8) (A1 : Option Addr) (n1 c1 : Nat) (l1 : List UInt8) (A2 : Option Addr) (n2 c2 : Nat) (l2 : List UInt8) (A3 : Option Addr) (n3 c3 : Nat) (l3 : List UInt8) (A4 : Option Addr) (n4 c4 : Nat) (l4 : List UInt8) (A5 : Option Addr) (n5 c5 : Nat) (l5 : List UInt8) (w : World) (hy : y.length = 32) (hx : nx.length = 32) (hry : Rd w (.slice Ay 32 cy) 1 32 (bvs y)) (hrx : Rd w (.slice Ax 32 cx) 1 32 (bvs nx)) (hl1 : l1.length = n1) (hn1 : n1 ≤ 65536) (hr1 : Rd w (.slice A1 n1 c1) 1 n1 (bvs l1)) (hl2 : l2.length = n2) (hn2 : n2 ≤ 10000) (hr2 : Rd w (.slice A2 n2 c2) 1 n2 (bvs l2)) (hl3 : l3.length = n3) (hn3 : n3 ≤ 10000) (hr3 : Rd w (.slice A3 n3 c3) 1 n3 (bvs l3)) (hl4 : l4.length = n4) (hn4 : n4 ≤ 10000) (hr4 : Rd w (.slice A4 n4 c4) 1 n4 (bvs l4)) (hl5 : l5.length = n5) (hn5 : n5 ≤ 10000) (hr5 : Rd w (.slice A5 n5 c5) 1 n5 (bvs l5)) :
    Calls Tryz.prog 32 #[.slice Ay 32 cy, .slice Ax 32 cx, .agg #[.slice A1 n1 c1, .slice A2 n2 c2, .slice A3 n3 c3, .slice A4 n4 c4, .slice A5 n5 c5]] w (SgR w (signK y nx ⟨l1, l2, l3, l4, l5⟩)) := by
  have hS0 := ((St.init w NoB).alloc #[.slice A1 n1 c1, .slice A2 n2 c2, .slice A3 n3 c3, .slice A4 n4 c4, .slice A5 n5 c5] 32).alloc #[.slice none 0 0, .slice none 0 0, .slice none 0 0, .slice none 0 0, .slice none 0 0] 32
  rw [size_alloc1] at hS0
  have HS := hide hS0
  have HRY := hide hry
  have HRX := hide hrx
  have HLY := hide hy
  have HLX := hide hx
  clear hS0 hry hrx hy hx
  have HR1 := hide hr1
  have HL1 := hide hl1
  have HR2 := hide hr2
  have HL2 := hide hl2
  have HR3 := hide hr3
  have HL3 := hide hl3
  have HR4 := hide hr4
  have HL4 := hide hl4
  have HR5 := hide hr5
  have HL5 := hide hl5
  clear hr1 hl1 hr2 hl2 hr3 hl3 hr4 hl4 hr5 hl5
  have HLM := hide (len_add3 HL1.out HL5.out (pubL_len nx))
  go_enter Tryz.func32, Tryz.ntmps32
  go_upto_region 2 with (go_at_call 11; (with_reducible refine (pub_32 _ _ _ _ HLX.out (HRX.out.below HS.out.below)).mono ?_); rintro e w1 ⟨Bp, dp, rfl, hb, ho⟩; have HS := hide (HS.out.row hb ho); have q1 := HS.out.cell 2 rfl 1; have g1 := HS.out.free 2 rfl 1; clear ho hb)
  have HS := hide (HS.out.setCell 2 rfl 1 (.slice Bp 32 dp))
  clear q1 g1
  generalize World.setCell w1 _ _ = w2 at HS ⊢
  have HS : Hid (St w NoB w2 [.row (.slice Bp 32 dp) 5 1 32 (bvs (pubL nx)), .cells (w.heap.size + 1) #[.slice none 0 0, .slice none 0 0, .slice none 0 0, .slice none 0 0, .slice none 0 0] 32, .cells w.heap.size #[.slice A1 n1 c1, .slice Bp 32 dp, .slice A3 n3 c3, .slice A4 n4 c4, .slice A5 n5 c5] 32]) := HS
  have t1 : _ = some (Value.slice A1 n1 c1) := HS.out.cell 2 rfl 0
  have t2 : _ = some (Value.slice Bp 32 dp) := HS.out.cell 2 rfl 1
  have t3 : _ = some (Value.slice A3 n3 c3) := HS.out.cell 2 rfl 2
  have t4 : _ = some (Value.slice A4 n4 c4) := HS.out.cell 2 rfl 3
  have t5 : _ = some (Value.slice A5 n5 c5) := HS.out.cell 2 rfl 4
  have M0 := True.intro
  go_upto_region 3 with (first
    | (clear M1; go_at_call 49; (with_reducible refine (sign_32 _ _ _ _ _ _ _ _ HLY.out HLM.out (by omega) (HRY.out.below HS.out.below) (HS.out.rd 0 rfl)).mono ?_); rintro e w4 ⟨Bg, dg, rfl, hb, ho⟩; have HS := hide (HS.out.row hb ho); have q2 := HS.out.cell 4 rfl 2; have g2 := HS.out.free 4 rfl 2; clear ho hb)
    | (clear M0; go_at_call 73; (with_reducible refine (message_core _ _ _ _ _ _ _ _ _ _ _ _ _ _ _ _ _ _ _ _ _ HL1.out (by omega) (HR1.out.below HS.out.below) (pubL_len _) (by omega) (HS.out.rd 0 rfl) HL3.out (by omega) (HR3.out.below HS.out.below) HL4.out (by omega) (HR4.out.below HS.out.below) HL5.out (by omega) (HR5.out.below HS.out.below)).mono ?_); rintro e w3 ⟨Bm, dm, rfl, hb, ho⟩; have HS := hide (HS.out.row hb ho); clear ho hb; have M1 := True.intro))
  have HS := hide (HS.out.setCell 4 rfl 2 (.slice Bg 64 dg))
  clear q2 g2 t1 t2 t3 t4 t5
  generalize World.setCell w4 _ _ = w5 at HS ⊢
  have HS : Hid (St w NoB w5 [.row (.slice Bg 64 dg) 5 1 64 (bvs (sigL y (l1 ++ (l5 ++ pubL nx)))), .row (.slice Bm (n1 + (n5 + 32)) dm) 5 1 (n1 + (n5 + 32)) (bvs (l1 ++ (l5 ++ pubL nx))), .row (.slice Bp 32 dp) 5 1 32 (bvs (pubL nx)), .cells (w.heap.size + 1) #[.slice none 0 0, .slice none 0 0, .slice none 0 0, .slice none 0 0, .slice none 0 0] 32, .cells w.heap.size #[.slice A1 n1 c1, .slice Bp 32 dp, .slice Bg 64 dg, .slice A4 n4 c4, .slice A5 n5 c5] 32]) := HS
  have t1 : _ = some (Value.slice A1 n1 c1) := HS.out.cell 4 rfl 0
  have t2 : _ = some (Value.slice Bp 32 dp) := HS.out.cell 4 rfl 1
  have t3 : _ = some (Value.slice Bg 64 dg) := HS.out.cell 4 rfl 2
  have t4 : _ = some (Value.slice A4 n4 c4) := HS.out.cell 4 rfl 3
  have t5 : _ = some (Value.slice A5 n5 c5) := HS.out.cell 4 rfl 4
  go_wp2_with (first
    | (refine wl_storeC rfl rfl HS.out 8 rfl (vs := [.slice E1 k1.length f1, .slice E2 k2.length f2, .slice E3 k3.length f3, .slice E4 k4.length f4, .slice E5 k5.length f5]) szSigned (Nat.le_refl _) rfl rfl one5 ?_; intro w7 hS7; have HS7 := hide hS7; clear hS7)
    | (go_at_call 74; (with_reducible refine (copied_core _ _ _ _ _ _ _ _ _ _ _ _ _ _ _ _ _ _ _ _ _ HL1.out (by omega) (HR1.out.below HS.out.below) (pubL_len _) (by omega) (HS.out.rd 2 rfl) (sigL_len _ _) (by omega) (HS.out.rd 0 rfl) HL4.out (by omega) (HR4.out.below HS.out.below) HL5.out (by omega) (HR5.out.below HS.out.below)).mono ?_); rintro e w6 ⟨⟨⟨E1, f1, k1⟩, ⟨E2, f2, k2⟩, ⟨E3, f3, k3⟩, ⟨E4, f4, k4⟩, ⟨E5, f5, k5⟩⟩, rfl, hz, hSz⟩; have HS := hide (HS.out.join hSz); clear hSz; have HZ := hide hz; clear hz))
  refine bodyPost_ret (results_cell_row rfl _ _ (w.heap.size + 1) _ _ _ _ rfl (HS7.out.heap 8 rfl) Tryz.underlying32 rfl (by kernel_rfl)) rfl ?_
  exact ⟨_, rfl, HZ.out, HS7.out.pickL [0, 1, 2, 3, 4] (by decide) rfl⟩
end Go.Proofs.YtnohmgpmmhlloaaGreatDoor

namespace Go.Proofs.YtnohmgpmmhlloaaGreatDoor
open Go.RowKit
set_option linter.unusedSimpArgs false
def seedW (n : UInt8) : List UInt8 := n :: (List.replicate 30 0 ++ [7])
theorem seedW_len (n : UInt8) : (seedW n).length = 32 := rfl
theorem seedW_set (n : UInt8) : ((bvs (List.replicate 32 0)).set 0 (.int .u8 (n.toNat : Int))).set 31 (.int .u8 7) = bvs (seedW n) := rfl
set_option maxRecDepth 100000 in
set_option maxHeartbeats 800000 in
theorem seed24_any (n : UInt8) (w : World) : Calls Tryz.prog 10 #[.int .u8 (n.toNat : Int)] w (BN 32 w (seedW n)) := by
  have HS := hide (St.init w NoB)
  go_enter Tryz.func10, Tryz.ntmps10
  go_upto_region 2 with (refine wl_makeB (n := 32) rfl rfl Tryz.underlying22 infoB HS.out rfl rfl (by omega) ?_; intro g w1 hS2 hb2; have HS1 := hide hS2; clear hS2 hb2)
  obtain ⟨g', c', hv, _, _, hcs, hfr, hset⟩ := HS1.out.rowOpen 0 rfl (by omega)
  injection hv with hv1 _ hv3
  injection hv1 with hv1
  injection hv1 with hv1
  subst hv1 hv3
  have q0 : w1.cell? ⟨g, 0, none⟩ = some (.int .u8 0) := hcs 0 _ rfl
  have q31 : w1.cell? ⟨g, 31, none⟩ = some (.int .u8 0) := hcs 31 _ rfl
  have f0 := hfr 0
  have f31 := hfr 31
  clear hcs hfr hset
  go_wp2_with fail
  go_ret
  have hS3 := (HS1.out.rowSet 0 rfl 0 (.int .u8 (n.toNat : Int)) (by omega)).rowSet 0 rfl 31 (.int .u8 7) (by omega)
  simp only [List.set_cons_zero] at hS3
  rw [seedW_set] at hS3
  exact ⟨_, _, rfl, hS3.below, hS3.ownsRow 0 rfl⟩
end Go.Proofs.YtnohmgpmmhlloaaGreatDoor

namespace Go.Proofs.YtnohmgpmmhlloaaGreatDoor
open Go.RowKit
set_option linter.unusedSimpArgs false
theorem szToken : (Tryz.prog.info? 26).map (·.size) = some 4 := by kernel_rfl
theorem one4 {A1 A2 A3 A4 : Option Addr} {n1 n2 n3 n4 c1 c2 c3 c4 : Nat} : ∀ v ∈ [Value.slice A1 n1 c1, .slice A2 n2 c2, .slice A3 n3 c3, .slice A4 n4 c4], v.oneCell' = true := by
  intro v hv
  simp only [List.mem_cons, List.not_mem_nil, or_false] at hv
  rcases hv with rfl | rfl | rfl | rfl <;> rfl
theorem Sg.val_eq (x : Sg) : x.val = .agg #[.slice x.b.A x.b.b.length x.b.c, .slice x.n.A x.n.b.length x.n.c, .slice x.s.A x.s.b.length x.s.c, .slice x.k.A x.k.b.length x.k.c, .slice x.v.A x.v.b.length x.v.c] := rfl
theorem Tk.val_eq (t : Tk) : t.val = .agg #[.slice t.r.A t.r.b.length t.r.c, .slice t.A t.l.length t.c, .slice t.e.A t.e.b.length t.e.c, .slice t.z.A t.z.b.length t.z.c] := rfl
set_option maxRecDepth 100000 in
set_option maxHeartbeats 800000 in
theorem seed_yes (A : Option Addr) (c : Nat) (w : World) : Calls Tryz.prog 31 #[.slice A 32 c] w fun e w' => e = .returned (.bool true) ∧ w = w' := by
  go_enter Tryz.func31, Tryz.ntmps31
  go_wp2_with fail
  go_ret
  exact ⟨rfl, rfl⟩
set_option maxRecDepth 100000 in
set_option maxHeartbeats 800000 in
theorem seed_no (A : Option Addr) (n c : Nat) (w : World) (hn : n ≠ 32) : Calls Tryz.prog 31 #[.slice A n c] w fun e w' => e = .returned (.bool false) ∧ w = w' := by
  have q0 : ((n : Int) == 32) = false := by simp; omega
  have q1 : decide ((n : Int) = 32) = false := by simp; omega
  have q2 : ¬ (n : Int) = 32 := by omega
  clear hn
  go_enter Tryz.func31, Tryz.ntmps31
  go_wp2_with fail
  go_ret
  exact ⟨rfl, rfl⟩
def TkR (w : World) (p : Tp) (e : Ending) (w' : World) : Prop := ∃ t : Tk, e = .returned (.tuple #[t.val, .int .i64 0]) ∧ t.p = p ∧ TkOK w' t ∧ Below w.heap.size w w'
def TkE (w : World) (c : Int) (e : Ending) (w' : World) : Prop := e = .returned (.tuple #[tk0.val, .int .i64 c]) ∧ Below w.heap.size w w'
set_option maxRecDepth 100000 in
set_option maxHeartbeats 1600000 in
theorem issue_ok (Ay Ax A : Option Addr) (cy cx n c : Nat) (y nx l : List UInt8) (w : World) (hy : y.length = 32) (hx : nx.length = 32) (hl : l.length = n) (hn : n ≤ 65536) (hry : Rd w (.slice Ay 32 cy) 1 32 (bvs y)) (hrx : Rd w (.slice Ax 32 cx) 1 32 (bvs nx)) (hr : Rd w (.slice A n c) 1 n (bvs l)) :
    Calls Tryz.prog 9 #[.slice Ay 32 cy, .slice Ax 32 cx, .slice A n c] w (TkR w (issueK y nx l)) := by
  have hS0 := (St.init w NoB).alloc #[.slice none 0 0, .slice none 0 0, .slice none 0 0, .slice none 0 0] 26
  have HS := hide hS0
  have HRY := hide hry
  have HRX := hide hrx
  have HR := hide hr
  have HLY := hide hy
  have HLX := hide hx
  have HL := hide hl
  have d0 : decide ((65536 : Int) < (n : Int)) = false := by simp; omega
  clear hS0 hry hrx hr hy hx hl
  go_enter Tryz.func9, Tryz.ntmps9
  go_upto_region 3 with (go_at_call 31; (with_reducible refine (seed_yes _ _ _).mono ?_); rintro e wy ⟨rfl, rfl⟩)
  generalize World.alloc w _ = wb at HS ⊢
  have M0 := True.intro
  go_wp2_with (first
    | (clear M3; refine wl_storeC rfl rfl HS.out 8 rfl (vs := [.slice Bp 32 dp, .slice (some ⟨_, 0, none⟩) 1 1, .slice Bc 32 dc, .slice none 0 0]) szToken (Nat.le_refl _) rfl rfl one4 ?_; intro w7 hS7; have HS7 := hide hS7; clear hS7)
    | (clear M2; go_at_call 33; have HS := hide (HS.out.lit [.slice E1 k1.length f1, .slice E2 k2.length f2, .slice E3 k3.length f3, .slice E4 k4.length f4, .slice E5 k5.length f5] 32 5 1 rfl (by decide)); (with_reducible refine (clone_b _ HLX.out (by omega) (HRX.out.below HS.out.below)).mono ?_); rintro e wy ⟨Bc, dc, rfl, hb, ho⟩; have HS := hide (HS.out.row hb ho); clear ho hb; have M3 := True.intro)
    | (clear M1; go_at_call 32; (with_reducible refine (signed_core _ _ _ _ _ _ _ _ _ _ _ _ _ _ _ _ _ _ _ _ _ _ _ _ _ _ _ HLY.out HLX.out (HRY.out.below HS.out.below) (HRX.out.below HS.out.below) HL.out (by omega) (HR.out.below HS.out.below) (rfl : ([] : List UInt8).length = 0) (by omega) (rd_nil _ 1) (rfl : ([] : List UInt8).length = 0) (by omega) (rd_nil _ 1) (rfl : ([] : List UInt8).length = 0) (by omega) (rd_nil _ 1) (rfl : ([] : List UInt8).length = 0) (by omega) (rd_nil _ 1)).mono ?_); rintro e w6 ⟨⟨⟨E1, f1, k1⟩, ⟨E2, f2, k2⟩, ⟨E3, f3, k3⟩, ⟨E4, f4, k4⟩, ⟨E5, f5, k5⟩⟩, rfl, hz, hSz⟩; rw [Sg.val_eq]; have HS := hide (HS.out.join hSz); clear hSz; have HZ := hide hz; clear hz; have M2 := True.intro)
    | (clear M0; go_at_call 11; (with_reducible refine (pub_32 _ _ _ _ HLY.out (HRY.out.below HS.out.below)).mono ?_); rintro e w1 ⟨Bp, dp, rfl, hb, ho⟩; have HS := hide (HS.out.row hb ho); clear ho hb; have M1 := True.intro))
  refine bodyPost_ret (results_cell_tmp_row rfl _ _ w.heap.size _ _ _ _ rfl (HS7.out.heap 8 rfl) Tryz.underlying26 rfl (by kernel_rfl)) rfl ?_
  refine ⟨⟨⟨Bp, dp, pubL y⟩, some ⟨w6.heap.size, 0, none⟩, 1, [⟨⟨E1, f1, k1⟩, ⟨E2, f2, k2⟩, ⟨E3, f3, k3⟩, ⟨E4, f4, k4⟩, ⟨E5, f5, k5⟩⟩], ⟨Bc, dc, nx⟩, pc0⟩, ?_, ?_, ⟨pc_of (pubL_len _) (HS7.out.rd 7 rfl), HS7.out.rd 1 rfl, fun x hx => ?_, pc_of HLX.out (HS7.out.rd 0 rfl), pc0_ok _⟩, HS7.out.below⟩
  · rw [Tk.val_eq]
    simp only [pubL_len, HLX.out]
    rfl
  · show Tp.mk _ [_] _ _ = _
    unfold issueK
    rw [← HZ.out]
    rfl
  · obtain rfl := List.mem_singleton.1 hx
    exact ⟨HS7.out.rd 2 rfl, HS7.out.rd 3 rfl, HS7.out.rd 4 rfl, HS7.out.rd 5 rfl, HS7.out.rd 6 rfl⟩
set_option maxRecDepth 100000 in
set_option maxHeartbeats 1600000 in
theorem issue_bad1 (Ay Ax A : Option Addr) (m1 m2 n cy cx c : Nat) (w : World) (hne : m1 ≠ 32) : Calls Tryz.prog 9 #[.slice Ay m1 cy, .slice Ax m2 cx, .slice A n c] w (TkE w 1) := by
  have HS := hide ((St.init w NoB).alloc #[.slice none 0 0, .slice none 0 0, .slice none 0 0, .slice none 0 0] 26)
  skip
  go_enter Tryz.func9, Tryz.ntmps9
  go_wp2_with (first
    | (refine wl_storeC rfl rfl HS.out 0 rfl (vs := [.slice none 0 0, .slice none 0 0, .slice none 0 0, .slice none 0 0]) szToken (Nat.le_refl _) rfl rfl one4 ?_; intro w7 hS7; have HS7 := hide hS7; clear hS7)
    | (go_at_call 31; (with_reducible refine (seed_no _ _ _ _ hne).mono ?_); rintro e wy ⟨rfl, rfl⟩))
  refine bodyPost_ret (results_cell_tmp_row rfl _ _ w.heap.size _ _ _ _ rfl (HS7.out.heap 0 rfl) Tryz.underlying26 rfl (by kernel_rfl)) rfl ?_
  exact ⟨rfl, HS7.out.below⟩
end Go.Proofs.YtnohmgpmmhlloaaGreatDoor

namespace Go.Proofs.YtnohmgpmmhlloaaGreatDoor
open Go.RowKit
set_option linter.unusedSimpArgs false
theorem rd_atG {w : World} {B : Option Addr} {n d sz : Nat} {xs : List Value} {k : Nat} {u : Value} (h : Rd w (.slice B n d) sz n xs) (hk : xs[k]? = some u) : ∃ b o, B = some ⟨b, o, none⟩ ∧ b < w.heap.size ∧ w.cell? ⟨b, o + k, none⟩ = some u := by
  rcases h.cases with ⟨_, _, h0⟩ | ⟨b, o, sp, c', hv, hb, _, _, hl, h4, hc⟩
  · rw [h0] at hk; simp at hk
  · injection hv with hv1 _ _
    have hkl : k < xs.length := (List.getElem?_eq_some_iff.1 hk).1
    have := h4 (by omega)
    subst this hv1
    exact ⟨b, o, rfl, hb (by omega), hc k u hk⟩
structure Is1 (w : World) (y nx l : List UInt8) (n : Nat) (b o : Nat) (r e v1 v2 v3 v4 v5 : Value) : Prop where
  hb : b < w.heap.size
  r : Rd w r 1 32 (bvs (pubL y))
  e : Rd w e 1 32 (bvs nx)
  c0 : w.cell? ⟨b, o, none⟩ = some v1
  c1 : w.cell? ⟨b, o + 1, none⟩ = some v2
  c2 : w.cell? ⟨b, o + 2, none⟩ = some v3
  c3 : w.cell? ⟨b, o + 3, none⟩ = some v4
  c4 : w.cell? ⟨b, o + 4, none⟩ = some v5
  r1 : Rd w v1 1 n (bvs l)
  r2 : Rd w v2 1 32 (bvs (pubL nx))
  r3 : Rd w v3 1 64 (bvs (sigL y (l ++ pubL nx)))
theorem Is1.on {w w' : World} {y nx l : List UInt8} {n b o : Nat} {r e v1 v2 v3 v4 v5 : Value} (h : Is1 w y nx l n b o r e v1 v2 v3 v4 v5) (hb : Below w.heap.size w w') : Is1 w' y nx l n b o r e v1 v2 v3 v4 v5 :=
  have k : ∀ j, w'.cell? ⟨b, j, none⟩ = w.cell? ⟨b, j, none⟩ := fun j => hb.cell (p := ⟨b, j, none⟩) h.hb
  ⟨Nat.lt_of_lt_of_le h.hb hb.size, h.r.below hb, h.e.below hb, (k _).trans h.c0, (k _).trans h.c1, (k _).trans h.c2, (k _).trans h.c3, (k _).trans h.c4, h.r1.below hb, h.r2.below hb, h.r3.below hb⟩
theorem issue1 (Ay Ax A : Option Addr) (cy cx n c : Nat) (y nx l : List UInt8) (w : World) (hy : y.length = 32) (hx : nx.length = 32) (hl : l.length = n) (hn : n ≤ 65536) (hry : Rd w (.slice Ay 32 cy) 1 32 (bvs y)) (hrx : Rd w (.slice Ax 32 cx) 1 32 (bvs nx)) (hr : Rd w (.slice A n c) 1 n (bvs l)) :
    Calls Tryz.prog 9 #[.slice Ay 32 cy, .slice Ax 32 cx, .slice A n c] w fun e w' => ∃ rA rc b o tc eA ec zA zc A1 c1 A2 c2 A3 c3 A4 c4 A5 c5, e = .returned (.tuple #[.agg #[.slice rA 32 rc, .slice (some ⟨b, o, none⟩) 1 tc, .slice eA 32 ec, .slice zA 0 zc], .int .i64 0]) ∧ Below w.heap.size w w' ∧
      Is1 w' y nx l n b o (.slice rA 32 rc) (.slice eA 32 ec) (.slice A1 n c1) (.slice A2 32 c2) (.slice A3 64 c3) (.slice A4 0 c4) (.slice A5 0 c5) :=
  (issue_ok Ay Ax A cy cx n c y nx l w hy hx hl hn hry hrx hr).mono fun e w' h => by
    obtain ⟨⟨⟨rA, rc, rb⟩, tA, tc, tl, ⟨eA, ec, eb⟩, ⟨zA, zc, zb⟩⟩, rfl, hp, hok, hb⟩ := h
    unfold issueK at hp
    obtain ⟨h1, h2, h3, h4⟩ := Tp.mk.inj hp
    replace h1 : rb = pubL y := h1
    replace h2 : tl.map Sg.p = [signK y nx ⟨l, [], [], [], []⟩] := h2
    replace h3 : eb = nx := h3
    replace h4 : zb = [] := h4
    subst h1 h3 h4
    obtain ⟨x, rfl, hx1⟩ : ∃ x, tl = [x] ∧ x.p = signK y eb ⟨l, [], [], [], []⟩ := by
      match tl, h2 with
      | [x], h2 => exact ⟨x, rfl, by simpa using h2⟩
      | [], h2 => simp at h2
      | _ :: _ :: _, h2 => simp at h2
    obtain ⟨⟨A1, c1, l1⟩, ⟨A2, c2, l2⟩, ⟨A3, c3, l3⟩, ⟨A4, c4, l4⟩, ⟨A5, c5, l5⟩⟩ := x
    obtain ⟨g1, g2, g3, g4, g5⟩ := Sp.mk.inj (show Sp.mk l1 l2 l3 l4 l5 = Sp.mk l (pubL eb) (sigL y (l ++ ([] ++ pubL eb))) [] [] from hx1)
    subst g1 g2 g3 g4 g5
    have hx0 := hok.l _ (List.mem_singleton.2 rfl)
    have hrow : Rd w' (.slice tA 1 tc) 5 1 [_, _, _, _, _] := hok.row
    obtain ⟨b, o, rfl, hlt, k0⟩ := rd_atG (k := 0) hrow rfl
    obtain ⟨_, _, e1, _, k1⟩ := rd_atG (k := 1) hrow rfl
    obtain ⟨_, _, e2, _, k2⟩ := rd_atG (k := 2) hrow rfl
    obtain ⟨_, _, e3, _, k3⟩ := rd_atG (k := 3) hrow rfl
    obtain ⟨_, _, e4, _, k4⟩ := rd_atG (k := 4) hrow rfl
    cases e1
    cases e2
    cases e3
    cases e4
    have q1 := hok.r
    have q2 := hok.e
    have q3 := hx0.b
    have q4 := hx0.n
    have q5 := hx0.s
    unfold PcOK at q1 q2 q3 q4 q5
    simp only [pubL_len, sigL_len, hx, hl] at q1 q2 q3 q4 q5
    refine ⟨rA, rc, b, o, tc, eA, ec, zA, zc, A1, c1, A2, c2, A3, c3, A4, c4, A5, c5, ?_, hb, ⟨hlt, q1, q2, ?_, ?_, ?_, k3, k4, q3, q4, q5⟩⟩
    · rw [Tk.val_eq]
      simp only [pubL_len, hx]
      rfl
    · rw [show (Value.slice A1 n c1) = .slice A1 l1.length c1 from by rw [hl]]
      exact k0
    · rw [show (Value.slice A2 32 c2) = .slice A2 (pubL eb).length c2 from by rw [pubL_len]]
      exact k1
    · rw [show (Value.slice A3 64 c3) = .slice A3 (sigL y (l1 ++ ([] ++ pubL eb))).length c3 from by rw [sigL_len]]
      exact k2
end Go.Proofs.YtnohmgpmmhlloaaGreatDoor

namespace Go.Proofs.YtnohmgpmmhlloaaGreatDoor
open Go.RowKit
set_option linter.unusedSimpArgs false
theorem seedC (k : Nat) (hk : k < 256) (w : World) : Calls Tryz.prog 10 #[.int .u8 (k : Int)] w (BN 32 w (seedW (UInt8.ofNat k))) := by
  have := seed24_any (UInt8.ofNat k) w
  rwa [show ((UInt8.ofNat k).toNat : Int) = (k : Int) from by rw [UInt8.toNat_ofNat']; omega] at this
set_option maxRecDepth 100000 in
set_option maxHeartbeats 1600000 in
theorem awake24_any (w : World) : Calls Tryz.prog 8 #[] w fun e w' => e = .returned (.bool true) ∧ Below w.heap.size w w' := by
  have HS := hide (St.init w NoB)
  have SD1 : Hid (∀ w, Calls Tryz.prog 10 #[.int .u8 1] w (BN 32 w (seedW 1))) := hide (fun w => seedC 1 (by decide) w)
  have SD2 : Hid (∀ w, Calls Tryz.prog 10 #[.int .u8 2] w (BN 32 w (seedW 2))) := hide (fun w => seedC 2 (by decide) w)
  have HL1 := hide (show ([97] : List UInt8).length = 1 from rfl)
  go_enter Tryz.func8, Tryz.ntmps8
  have M0 := True.intro
  go_upto_region 2 with (first
    | (clear M3; refine wl_storeC rfl rfl (HS.out.alloc _ _) 0 rfl (vs := [.slice rA 32 rc, .slice (some ⟨b, o, none⟩) 1 tc, .slice eA 32 ec, .slice zA 0 zc]) szToken (Nat.le_refl _) rfl rfl one4 ?_; intro w7 hS7; have HS := hide hS7; clear hS7; have M4 := True.intro)
    | (clear M2; go_at_call 9; (with_reducible refine (issue1 _ _ _ _ _ _ _ _ _ _ _ (seedW_len _) (seedW_len _) HL1.out (by omega) ((HS.out.skip _).rd 1 rfl) ((HS.out.skip _).rd 0 rfl) HR0.out).mono ?_); rintro e w6 ⟨rA, rc, b, o, tc, eA, ec, zA, zc, A1, c1, A2, c2, A3, c3, A4, c4, A5, c5, rfl, hb, hI⟩; have HB6 := hide (((HS.out.skip _).call hb).below); have HI := hide hI; have HS := hide (St.init w6 NoB); clear hb hI; have M3 := True.intro)
    | (clear M1; go_at_call 10; (with_reducible refine (SD2.out _).mono ?_); rintro e wy ⟨B2, d2, rfl, hb, ho⟩; have HS := hide (HS.out.row hb ho); have hcv := Go.Joins.run_convert_bytes_const_at (P := Tryz.prog) wy 22 5 #[.int .u8 97] 1 1 wy.heap.size rfl Tryz.underlying22 Tryz.underlying5; have HR0 : Hid (Rd (wy.alloc (.cells #[.int .u8 97] 5 (1, 2))) (.slice (some ⟨wy.heap.size, 0, none⟩) 1 1) 1 1 (bvs [97])) := hide (rd_mark wy (bvs [97]) 5 (1, 2) 1 rfl (by decide)); clear ho hb; have M2 := True.intro)
    | (clear M0; go_at_call 10; (with_reducible refine (SD1.out _).mono ?_); rintro e wy ⟨B1, d1, rfl, hb, ho⟩; have HS := hide (HS.out.row hb ho); clear ho hb; have M1 := True.intro))
  have HS : Hid (St w6 NoB w7 [.cells w6.heap.size #[.slice rA 32 rc, .slice (some ⟨b, o, none⟩) 1 tc, .slice eA 32 ec, .slice zA 0 zc] 26]) := HS
  have N0 := True.intro
  go_upto_region 3 with (first
    | (clear N2; refine wl_storeC rfl rfl (HS.out.alloc _ _) 0 rfl (vs := [.slice none 0 0, .slice none 0 0, .slice none 0 0, .slice none 0 0]) szToken (Nat.le_refl _) rfl rfl one4 ?_; intro w9 hS9; have HS := hide hS9; clear hS9; have N3 := True.intro)
    | (clear N1; go_at_call 9; (with_reducible refine (issue_bad1 _ _ _ _ _ _ _ _ _ _ (show (0 : Nat) ≠ 32 by decide)).mono ?_); rintro e w8 ⟨rfl, hb⟩; rw [show tk0.val = .agg #[.slice none 0 0, .slice none 0 0, .slice none 0 0, .slice none 0 0] from rfl]; have HS := hide (HS.out.call hb); clear hb; have N2 := True.intro)
    | (clear N0; go_at_call 10; (with_reducible refine (SD2.out _).mono ?_); rintro e wy ⟨B3, d3, rfl, hb, ho⟩; have HS := hide (HS.out.row hb ho); clear ho hb; have N1 := True.intro))
  have c1 : _ = some (Value.slice (some ⟨b, o, none⟩) 1 tc) := HS.out.cell 2 rfl 1
  have c2 : _ = some (Value.slice eA 32 ec) := HS.out.cell 2 rfl 2
  have hI := HI.out.on HS.out.below
  have k0 := hI.c0
  have k2 := hI.c2
  have cva := run_str (P := Tryz.prog) Tryz.underlying22 Tryz.underlying5 Tryz.underlying9 hI.r1
  clear hI
  go_wp2_with fail
  go_ret
  exact ⟨rfl, bnx HB6.out HS.out.below⟩
end Go.Proofs.YtnohmgpmmhlloaaGreatDoor

namespace Go.Proofs.YtnohmgpmmhlloaaGreatDoor
open Go.RowKit
set_option linter.unusedSimpArgs false
section
variable {P : Program} {ops : Array Oper} {Q : Exit → Act → World → Prop} {restT : List (Nat × Nat)} {i : Nat} {o : Oper} {a : Act} {w : World} {W0 : World} {F : List (Nat × Nat)} {fc : Array Value} {fe : TypeId} {suf : STr}
theorem wpX_callH {f : FuncId} {xs : List Operand} {ts : Array TypeId} {vs : List Value} {R : World → Ending → World → Prop} (ho : ops[i]? = some o) (hw : Region.wanted o (yielded ops a.tmps) = true)
    (hop : o.op = .call { callee := .value (.func f), args := xs.toArray, argTypes := ts }) (hf : ∀ (args : Array Value) (w : World), (callFunc f args).run P w = .ok (.enter f args) w)
    (hx : xs.map a.eval = vs) (hc : ∀ x, From w x → Calls P f vs.toArray x (R x)) (h : ∀ x e w', From w x → R x e w' → ∃ v, e = .returned v ∧ Below x.heap.size x w' ∧ XGo P ops Q F fc fe suf W0 restT (a.put o.dst v) w') : XGo P ops Q F fc fe suf W0 ((i, 2) :: restT) a w :=
  wpX_call ho hw fun x hx' K hK => wp_call hop hf hx (hc x hx') fun e w' hr => by
    obtain ⟨v, he, hb, hk⟩ := h x e w' hx' hr
    exact ⟨v, he, hK _ _ ⟨hb, hk⟩⟩
end
theorem rd_halves {w : World} {C : Option Addr} {c : Nat} {g : List UInt8} (hl : g.length = 64) (h : Rd w (.slice C 64 c) 1 64 (bvs g)) : ∃ b o, C = some ⟨b, o, none⟩ ∧ 64 ≤ c ∧ Rd w (.slice (some ⟨b, o, none⟩) 32 c) 1 32 (bvs (g.take 32)) ∧ Rd w (.slice (some ⟨b, o + 32, none⟩) 32 (c - 32)) 1 32 (bvs (g.drop 32)) := by
  obtain ⟨b, o, rfl⟩ := S1.rd_some h (by decide)
  have h2 := rd_mid h 32 64 (by decide) (by decide)
  rw [List.take_of_length_le (by rw [List.length_drop, hl]; exact Nat.le_refl _)] at h2
  exact ⟨b, o, rfl, rd_cap h, rd_take h 32 (by decide), h2⟩
theorem mayB {A : Option Addr} {n c : Nat} {l : List UInt8} {b : Bool} (w : World) (hm : S3.mayS l = b) (hl : l.length = n) (hr : Rd w (.slice A n c) 1 n (bvs l)) : Calls Tryz.prog 39 #[.slice A n c] w fun e w' => e = .returned (.bool b) ∧ Below w.heap.size w w' := by
  subst hm
  exact S3.may_walk A n c l w hl hr
theorem ver_none {p m g : List UInt8} (h : fromL p = none) : verL p m g = false := by unfold verL; rw [h]
theorem ver_long {p m g : List UInt8} {P : Ed} (h : fromL p = some P) (hg : g.length ≠ 64) : verL p m g = false := by unfold verL; rw [h]; show (decide (g.length = 64) && _ && _) = false; rw [decide_eq_false hg]; rfl
theorem ver_may {p m g : List UInt8} {P : Ed} (h : fromL p = some P) (hm : S3.mayS (g.drop 32) = false) : verL p m g = false := by unfold verL; rw [h]; show (_ && S3.mayS (g.drop 32) && _) = false; rw [hm, Bool.and_false]; rfl
theorem ver_right {p m g : List UInt8} {P : Ed} (h : fromL p = some P) (hg : g.length = 64) (hm : S3.mayS (g.drop 32) = true) : verL p m g = rightL P p m g := by unfold verL; rw [h]; show (decide (g.length = 64) && S3.mayS (g.drop 32) && _) = _; rw [hm, decide_eq_true hg]; rfl
theorem enBaseMc (args : Array Value) (w : World) : (callFunc 35 args).run Tryz.prog w = .ok (.enter 35 args) w := by kernel_rfl
theorem enMulMc (args : Array Value) (w : World) : (callFunc 36 args).run Tryz.prog w = .ok (.enter 36 args) w := by kernel_rfl
theorem enNegMc (args : Array Value) (w : World) : (callFunc 42 args).run Tryz.prog w = .ok (.enter 42 args) w := by kernel_rfl
theorem enAddMc (args : Array Value) (w : World) : (callFunc 41 args).run Tryz.prog w = .ok (.enter 41 args) w := by kernel_rfl
set_option maxRecDepth 100000 in
set_option maxHeartbeats 6400000 in
theorem verify_any (A B C : Option Addr) (n c1 m c2 k c3 : Nat) (p x g : List UInt8) (w : World) (hp : p.length = n) (hx : x.length = m) (hg : g.length = k) (hn : n ≤ 1000) (hm : m ≤ 100000)
    (hrp : Rd w (.slice A n c1) 1 n (bvs p)) (hrx : Rd w (.slice B m c2) 1 m (bvs x)) (hrg : Rd w (.slice C k c3) 1 k (bvs g)) :
    Calls Tryz.prog 12 #[.slice A n c1, .slice B m c2, .slice C k c3] w fun e w' => e = .returned (.bool (verL p x g)) ∧ Below w.heap.size w w' := by
  have HS := hide (St.init w NoB)
  have HRP := hide hrp
  have HRX := hide hrx
  have HLP := hide hp
  have HLX := hide hx
  cases hf : fromL p with
  | none =>
    have HF := hide hf
    have HV := hide (ver_none (m := x) (g := g) hf)
    clear hrp hrx hrg hp hx hg hf hn hm
    go_enter Tryz.func12, Tryz.ntmps12
    have M0 := True.intro
    go_wp2_with (first | (clear M2; refine wl_storeR rfl rfl rfl rfl HS.out rowP .head (by first | exact arr_zP | exact PtV.arr ‹_›) (by first | exact PtV.arr ‹_› | exact arr_zP) ?_; intro wz hS9; have HS := hide hS9; clear hS9; (try simp only [Act.put, nq1, nq2, nq3, nq4, nq5, nq6]); have M3 := True.intro) | (clear M1; refine wl_allocR rfl rfl HS.out newP ?_; intro gp wz hS9; have HS := hide hS9; clear hS9; (try simp only [Act.put, nq1, nq2, nq3, nq4, nq5, nq6]); have M2 := True.intro) | (clear M0; go_at_call 38; (with_reducible refine (from_none _ HF.out HLP.out HRP.out).mono ?_); rintro e wy ⟨zp, hzp, rfl, hb⟩; have HS := hide (HS.out.call hb); have M1 := True.intro))
    go_ret
    exact ⟨by rw [HV.out] <;> rfl, HS.out.below⟩
  | some P =>
    have HF := hide hf
    by_cases h64 : k = 64
    · subst h64
      obtain ⟨b, o, rfl, hc64, hr1, hr2⟩ := rd_halves hg hrg
      have HR1 := hide hr1
      have HR2 := hide hr2
      have HL1 := hide (show (g.take 32).length = 32 by rw [List.length_take, hg]; rfl)
      have HL2 := hide (show (g.drop 32).length = 32 by rw [List.length_drop, hg])
      have hcc : (64 : Int) ≤ (c3 : Int) := by omega
      have hcc2 : (32 : Int) ≤ (c3 : Int) := by omega
      have hcc4 : ¬ c3 = 32 := by omega
      cases hmy : S3.mayS (g.drop 32) with
      | false =>
        have HMY := hide hmy
        have HV := hide (ver_may (m := x) hf hmy)
        clear hrp hrx hrg hp hx hg hf hmy hr1 hr2
        go_enter Tryz.func12, Tryz.ntmps12
        have M0 := True.intro
        go_wp2_with (first | (clear M3; go_at_call 39; (with_reducible refine (mayB _ HMY.out HL2.out (HR2.out.below HS.out.below)).mono ?_); rintro e wy ⟨rfl, hb⟩; have HS := hide (HS.out.call hb); have M4 := True.intro) | (clear M2; refine wl_storeR rfl rfl rfl rfl HS.out rowP .head (by first | exact arr_zP | exact PtV.arr ‹_›) (by first | exact PtV.arr ‹_› | exact arr_zP) ?_; intro wz hS9; have HS := hide hS9; clear hS9; (try simp only [Act.put, nq1, nq2, nq3, nq4, nq5, nq6]); have M3 := True.intro) | (clear M1; refine wl_allocR rfl rfl HS.out newP ?_; intro gp wz hS9; have HS := hide hS9; clear hS9; (try simp only [Act.put, nq1, nq2, nq3, nq4, nq5, nq6]); have M2 := True.intro) | (clear M0; go_at_call 38; (with_reducible refine (from_some _ HF.out HLP.out HRP.out).mono ?_); rintro e wy ⟨zp, hzp, rfl, hb⟩; have HS := hide (HS.out.call hb); have M1 := True.intro))
        go_ret
        exact ⟨by rw [HV.out] <;> rfl, HS.out.below⟩
      | true =>
        have HMY := hide hmy
        have HV := hide ((ver_right (m := x) hf hg hmy).trans rfl)
        clear hrp hrx hrg hp hx hg hf hmy hr1 hr2
        go_enter Tryz.func12, Tryz.ntmps12
        have M0 := True.intro
        go_upto_region 4 with (first | (clear M3; go_at_call 39; (with_reducible refine (mayB _ HMY.out HL2.out (HR2.out.below HS.out.below)).mono ?_); rintro e wy ⟨rfl, hb⟩; have HS := hide (HS.out.call hb); have M4 := True.intro) | (clear M2; refine wl_storeR rfl rfl rfl rfl HS.out rowP .head (by first | exact arr_zP | exact PtV.arr ‹_›) (by first | exact PtV.arr ‹_› | exact arr_zP) ?_; intro wz hS9; have HS := hide hS9; clear hS9; (try simp only [Act.put, nq1, nq2, nq3, nq4, nq5, nq6]); have M3 := True.intro) | (clear M1; refine wl_allocR rfl rfl HS.out newP ?_; intro gp wz hS9; have HS := hide hS9; clear hS9; (try simp only [Act.put, nq1, nq2, nq3, nq4, nq5, nq6]); have M2 := True.intro) | (clear M0; go_at_call 38; (with_reducible refine (from_some _ HF.out HLP.out HRP.out).mono ?_); rintro e wy ⟨zp, hzp, rfl, hb⟩; have HS := hide (HS.out.call hb); have M1 := True.intro))
        have HS := hide HS.out.drew
        refine wp_region_T [(0, 1), (1, 1), (2, 1), (3, 1), (4, 1), (5, 1)] (by kernel_rfl) (by kernel_rfl) (fun _ _ _ _ h => h) ?_
        generalize wy.drew = wq at HS ⊢
        (refine wpT_pure (v := ?_) rfl rfl ?_ ?_; rotate_left; (intro wx; go_simp; try go_bits) <;> (with_reducible rfl)); (try simp only [Act.put, nq1, nq2, nq3, nq4, nq5, nq6])
        (refine wpT_pure (v := ?_) rfl rfl ?_ ?_; rotate_left; (intro wx; go_simp; try go_bits) <;> (with_reducible rfl)); (try simp only [Act.put, nq1, nq2, nq3, nq4, nq5, nq6])
        (refine wpT_pure (v := ?_) rfl rfl ?_ ?_; rotate_left; (intro wx; go_simp; try go_bits) <;> (with_reducible rfl)); (try simp only [Act.put, nq1, nq2, nq3, nq4, nq5, nq6])
        (refine wpT_pure (v := ?_) rfl rfl ?_ ?_; rotate_left; (intro wx; go_simp; try go_bits) <;> (with_reducible rfl)); (try simp only [Act.put, nq1, nq2, nq3, nq4, nq5, nq6])
        (refine wpT_pure (v := ?_) rfl rfl ?_ ?_; rotate_left; (intro wx; go_simp; try go_bits) <;> (with_reducible rfl)); (try simp only [Act.put, nq1, nq2, nq3, nq4, nq5, nq6])
        (refine wpT_pure (v := ?_) rfl rfl ?_ ?_; rotate_left; (intro wx; go_simp; try go_bits) <;> (with_reducible rfl)); (try simp only [Act.put, nq1, nq2, nq3, nq4, nq5, nq6])
        refine wpT_nil ?_
        go_upto_region 6 with (go_at_call 40; (with_reducible refine (sum3 _ HL1.out HLP.out HLX.out (by omega) (HR1.out.below HS.out.below) (HRP.out.below HS.out.below) (HRX.out.below HS.out.below)).mono ?_); rintro e wy ⟨Bh, dh, rfl, hb, ho⟩; have HS := hide ((HS.out.skip _).row hb ho); clear ho)
        have HS := hide HS.out.drew
        refine wp_region_XE [(8, 12)] [(1, 1), (3, 0), (4, 1), (0, 2), (2, 2), (5, 2), (6, 2), (7, 2)] (.op 9 2 (.nil)) zP 63 (by kernel_rfl) (by kernel_rfl) (by kernel_rfl) (by intro p hp; simp only [List.mem_cons, List.not_mem_nil, or_false] at hp; subst hp; exact flOp_of rfl rfl rfl (fun ev x => run_allocR rfl newP ev x)) (fun _ _ _ _ h => h) ?_
        generalize wy.drew = W0 at HS ⊢
        have hX := Below.refl W0.heap.size W0
        (refine wpX_pure (v := ?_) rfl rfl ?_ ?_; rotate_left; (intro wx; go_simp; try go_bits) <;> (with_reducible rfl)); (try simp only [Act.put, nq1, nq2, nq3, nq4, nq5, nq6])
        refine wpX_loadP rfl rfl rfl rfl HS.out (.tail _ (.head _)) rowP (.all (PtV.arr hzp)) ?_; (try simp only [Act.put, nq1, nq2, nq3, nq4, nq5, nq6])
        (refine wpX_pure (v := ?_) rfl rfl ?_ ?_; rotate_left; (intro wx; go_simp; try go_bits) <;> (with_reducible rfl)); (try simp only [Act.put, nq1, nq2, nq3, nq4, nq5, nq6])
        refine wpX_callH rfl rfl rfl enBaseMc rfl (fun x hx => baseP x) ?_; rintro xw e wy hx ⟨z1, hz1, rfl, hb⟩; refine ⟨_, rfl, hb, ?_⟩; have hX := bnx (bnx hX hx) hb; (try simp only [Act.put, nq1, nq2, nq3, nq4, nq5, nq6])
        refine wpX_callH rfl rfl rfl enMulMc rfl (fun x hx => mulP_any _ _ _ _ x (PtN.v hz1) HL2.out (by omega) (HR2.out.below (bnx HS.out.below (bnx hX hx)))) ?_; rintro xw e wy hx ⟨z2, hz2, rfl, hb⟩; refine ⟨_, rfl, hb, ?_⟩; have hX := bnx (bnx hX hx) hb; (try simp only [Act.put, nq1, nq2, nq3, nq4, nq5, nq6])
        refine wpX_callH rfl rfl rfl enMulMc rfl (fun x hx => mulP_any _ _ _ _ x hzp (sumS_len _) (by omega) ((HS.out.rd 0 rfl).below (bnx hX hx))) ?_; rintro xw e wy hx ⟨z3, hz3, rfl, hb⟩; refine ⟨_, rfl, hb, ?_⟩; have hX := bnx (bnx hX hx) hb; (try simp only [Act.put, nq1, nq2, nq3, nq4, nq5, nq6])
        refine wpX_callH rfl rfl rfl enNegMc rfl (fun x hx => negP x (PtN.v hz3)) ?_; rintro xw e wy hx ⟨z4, hz4, rfl, hb⟩; refine ⟨_, rfl, hb, ?_⟩; have hX := bnx (bnx hX hx) hb; (try simp only [Act.put, nq1, nq2, nq3, nq4, nq5, nq6])
        refine wpX_callH rfl rfl rfl enAddMc rfl (fun x hx => addP x (PtN.v hz2) (PtN.v hz4)) ?_; rintro xw e wy hx ⟨z5, hz5, rfl, hb⟩; refine ⟨_, rfl, hb, ?_⟩; have hX := bnx (bnx hX hx) hb; (try simp only [Act.put, nq1, nq2, nq3, nq4, nq5, nq6])
        refine wpX_nil ?_; intro G xz hx0 hx hF; have hS9 := HS.out.floats hx0 hF _ (by decide) (fun _ h => h); simp only [List.map_cons, List.map_nil, List.cons_append, List.nil_append] at hS9; have HS := hide hS9; have HX := hide hx0; have HG := hide hF.at_; clear hS9 hF hx0 hx; simp only [putsE, List.foldl_cons, List.foldl_nil]; (try simp only [Act.put, nq1, nq2, nq3, nq4, nq5, nq6])
        refine wpS_storeF rfl rfl rfl rfl rfl HS.out HX.out (HG.out 8 (by simp)).1 rowP (.head) arr_zP (PtN.arr hz5) ?_; intro wz hS9 hX9; have HS := hide hS9; have HX := hide hX9; clear hS9 hX9; (try simp only [Act.put, nq1, nq2, nq3, nq4, nq5, nq6])
        refine wpS_nil ?_
        have M0 := True.intro
        go_wp2_with (first | (clear M2; go_at_call 43; (with_reducible refine (equal_walk _ _ 32 _ _ _ _ _ (packL_len _) HL1.out (by decide) (HS.out.rd 0 rfl) (HR1.out.below HS.out.below)).mono ?_); rintro e wy ⟨rfl, hb⟩; have HS := hide (HS.out.call hb); have M3 := True.intro) | (clear M1; go_at_call 37; (with_reducible refine (bytesP32 _ (PtN.v hz5)).mono ?_); rintro e wy ⟨Bw, dw, rfl, hb, ho⟩; have HS := hide (HS.out.row hb ho); clear ho; have M2 := True.intro) | (clear M0; refine wl_loadP rfl rfl rfl HS.out (.head _) rowP (.all (PtN.arr hz5)) ?_; (try simp only [Act.put, nq1, nq2, nq3, nq4, nq5, nq6]); have M1 := True.intro))
        go_ret
        exact ⟨by rw [HV.out] <;> rfl, HS.out.below⟩
    · have HV := hide (ver_long (m := x) hf (show g.length ≠ 64 by rw [hg]; exact h64))
      have d1 : ((k : Int) != 64) = true := by simp; omega
      have d2 : decide ((k : Int) = 64) = false := by simp; omega
      clear hrp hrx hrg hp hx hg hf h64
      go_enter Tryz.func12, Tryz.ntmps12
      have M0 := True.intro
      go_wp2_with (first | (clear M2; refine wl_storeR rfl rfl rfl rfl HS.out rowP .head (by first | exact arr_zP | exact PtV.arr ‹_›) (by first | exact PtV.arr ‹_› | exact arr_zP) ?_; intro wz hS9; have HS := hide hS9; clear hS9; (try simp only [Act.put, nq1, nq2, nq3, nq4, nq5, nq6]); have M3 := True.intro) | (clear M1; refine wl_allocR rfl rfl HS.out newP ?_; intro gp wz hS9; have HS := hide hS9; clear hS9; (try simp only [Act.put, nq1, nq2, nq3, nq4, nq5, nq6]); have M2 := True.intro) | (clear M0; go_at_call 38; (with_reducible refine (from_some _ HF.out HLP.out HRP.out).mono ?_); rintro e wy ⟨zp, hzp, rfl, hb⟩; have HS := hide (HS.out.call hb); have M1 := True.intro))
      go_ret
      exact ⟨by rw [HV.out] <;> rfl, HS.out.below⟩
end Go.Proofs.YtnohmgpmmhlloaaGreatDoor

namespace Go.Proofs.YtnohmgpmmhlloaaGreatDoor
open Go.RowKit
set_option linter.unusedSimpArgs false
end Go.Proofs.YtnohmgpmmhlloaaGreatDoor

namespace Go.Proofs.YtnohmgpmmhlloaaGreatDoor
open Go.RowKit
set_option linter.unusedSimpArgs false
end Go.Proofs.YtnohmgpmmhlloaaGreatDoor

namespace Go.Proofs.YtnohmgpmmhlloaaGreatDoor
open Go.RowKit
set_option linter.unusedSimpArgs false
theorem mulV_32 {l : List UInt8} (h : l.length = 32) : mulV l = bval l := by
  unfold mulV
  rw [List.take_of_length_le (by omega)]
theorem lq_eq : S3.Lq = Lq := by
  unfold S3.Lq Lq
  rfl
theorem sig_take (s m : List UInt8) : (sigL s m).take 32 = firstL s m := by
  unfold sigL
  exact List.take_left' (firstL_len s m)
theorem sig_drop (s m : List UInt8) : (sigL s m).drop 32 = S3.madL (sumS (firstL s m ++ (pubL s ++ m))) (keyA s) (sumS (keyP s ++ m)) := by
  unfold sigL
  exact List.drop_left' (firstL_len s m)
theorem sig_right (s m : List UInt8) : verL (pubL s) m (sigL s m) = true := by
  have hp : fromL (pubL s) = some (tmE Bp (mulV (keyA s))) := from_pack _
  rw [ver_right hp (sigL_len s m) (by rw [sig_drop]; exact S3.may_madL _ _ _)]
  unfold rightL
  rw [sig_take, sig_drop, mulV_32 (S3.madL_len _ _ _), S3.bval_madL, lq_eq, tmE_mod, tmE_add]
  refine decide_eq_true ?_
  show _ = packL (tmE Bp (mulV (sumS (keyP s ++ m))))
  congr 1
  rw [mulV_32 (keyA_len s), mulV_32 (sumS_len (firstL s m ++ (pubL s ++ m))), mulV_32 (sumS_len (keyP s ++ m)), ← tmE_mul, Nat.mul_comm (bval (keyA s)), ed_comm (tmE Bp (_ * _)), ed_back]
end Go.Proofs.YtnohmgpmmhlloaaGreatDoor

namespace Go.Proofs.YtnohmgpmmhlloaaGreatDoor
open Go.RowKit
set_option linter.unusedSimpArgs false
set_option maxRecDepth 100000 in
set_option maxHeartbeats 6400000 in
theorem chainKeys_walk (p q : UInt8) (A : Option Addr) (n c : Nat) (l : List UInt8) (w : World) (hl : l.length = n) (hr : Rd w (.slice A n c) 1 n (bvs l)) :
    Calls Tryz.prog 3 #[.int .u8 (p.toNat : Int), .int .u8 (q.toNat : Int), .slice A n c] w fun e w' => e = .returned (.bool true) ∧ Below w.heap.size w w' := by
  have HS := hide (St.init w NoB)
  have HR := hide hr
  have HL := hide hl
  clear hr hl
  have d1 : decide ((200 : Int) < (n : Int)) = decide (200 < n) := decide_eq_decide.2 (by omega)
  by_cases h1 : 200 < n
  · have e1 := decide_eq_true h1
    rw [e1] at d1
    clear h1
    go_enter Tryz.func3, Tryz.ntmps3
    go_wp2_with (go_at_call 8; (with_reducible refine (awake24_any _).mono ?_); rintro e wy ⟨rfl, hb⟩; have HS := hide (HS.out.call hb))
    go_ret
    exact ⟨rfl, HS.out.below⟩
  have e1 := decide_eq_false h1
  rw [e1] at d1
  have HM := hide (len_add HL.out (pubL_len (seedW q)))
  have SDp := hide (fun w => seed24_any p w)
  have SDq := hide (fun w => seed24_any q w)
  go_enter Tryz.func3, Tryz.ntmps3
  have M0 := True.intro
  go_upto_region 4 with (first
    | (clear M3; refine wl_storeC rfl rfl (HS.out.alloc _ _) 0 rfl (vs := [.slice rA 32 rc, .slice (some ⟨b, o, none⟩) 1 tc, .slice eA 32 ec, .slice zA 0 zc]) szToken (Nat.le_refl _) rfl rfl one4 ?_; intro w7 hS7; have HS := hide hS7; clear hS7; have M4 := True.intro)
    | (clear M2; go_at_call 9; (with_reducible refine (issue1 _ _ _ _ _ _ _ _ _ _ _ (seedW_len _) (seedW_len _) HL.out (by omega) (HS.out.rd 1 rfl) (HS.out.rd 0 rfl) (HR.out.below HS.out.below)).mono ?_); rintro e w6 ⟨rA, rc, b, o, tc, eA, ec, zA, zc, A1, c1, A2, c2, A3, c3, A4, c4, A5, c5, rfl, hb, hI⟩; have HB6 := hide ((HS.out.call hb).below); have HI := hide hI; have HS := hide (St.init w6 NoB); clear hb hI; have M3 := True.intro)
    | (clear M1; go_at_call 10; (with_reducible refine (SDq.out _).mono ?_); rintro e wy ⟨B2, d2, rfl, hb, ho⟩; have HS := hide (HS.out.row hb ho); clear ho hb; have M2 := True.intro)
    | (clear M0; go_at_call 10; (with_reducible refine (SDp.out _).mono ?_); rintro e wy ⟨B1, d1, rfl, hb, ho⟩; have HS := hide (HS.out.row hb ho); clear ho hb; have M1 := True.intro))
  have HS : Hid (St w6 NoB w7 [.cells w6.heap.size #[.slice rA 32 rc, .slice (some ⟨b, o, none⟩) 1 tc, .slice eA 32 ec, .slice zA 0 zc] 26]) := HS
  have u1 : _ = some (Value.slice (some ⟨b, o, none⟩) 1 tc) := HS.out.cell 0 rfl 1
  have hI := HI.out.on HS.out.below
  have k0 := hI.c0
  have k1 := hI.c1
  have k2 := hI.c2
  have k3 := hI.c3
  have k4 := hI.c4
  clear hI
  have N0 := True.intro
  go_upto_region 7 with (clear N0; refine wl_storeC rfl rfl (HS.out.alloc _ _) 0 rfl (vs := [.slice A1 n c1, .slice A2 32 c2, .slice A3 64 c3, .slice A4 0 c4, .slice A5 0 c5]) szSigned (Nat.le_refl _) rfl rfl one5 ?_; intro w8 hS8; have HS := hide hS8; clear hS8)
  have HS : Hid (St w6 NoB w8 [.cells w7.heap.size #[.slice A1 n c1, .slice A2 32 c2, .slice A3 64 c3, .slice A4 0 c4, .slice A5 0 c5] 32, .cells w6.heap.size #[.slice rA 32 rc, .slice (some ⟨b, o, none⟩) 1 tc, .slice eA 32 ec, .slice zA 0 zc] 26]) := HS
  clear u1 k0 k1 k2 k3 k4
  refine wp_region_S (.op 1 1 (.op 2 0 (.op 4 1 (.op 5 0 (.op 0 2 (.op 3 2 (.op 6 2 (.op 7 1 (.nil))))))))) (by kernel_rfl) (by kernel_rfl) (fun _ _ _ _ h => h) ?_
  have HS := hide HS.out.drew
  generalize w8.drew = w9 at HS ⊢
  have u0 : _ = some (Value.slice A1 n c1) := HS.out.cell 0 rfl 0
  have u1 : _ = some (Value.slice A2 32 c2) := HS.out.cell 0 rfl 1
  have R1 := hide (HI.out.r1.below HS.out.below)
  have R2 := hide (HI.out.r2.below HS.out.below)
  have HZ := hide ((St.init w9 NoB).lit [] 5 1 0 rfl (by decide))
  have hb0 := HZ.out.below
  have N1 := True.intro
  (refine wpS_pure (v := ?_) rfl rfl ?_ ?_; rotate_left; (intro wx; go_simp; try go_bits) <;> (with_reducible rfl)); (try simp only [Act.put, nq1, nq2, nq3, nq4, nq5, nq6])
  (refine wpS_load (v := ?_) rfl rfl rfl ?_ ?_; rotate_left; (go_simp; try go_bits) <;> (with_reducible rfl)); (try simp only [Act.put, nq1, nq2, nq3, nq4, nq5, nq6])
  (refine wpS_pure (v := ?_) rfl rfl ?_ ?_; rotate_left; (intro wx; go_simp; try go_bits) <;> (with_reducible rfl)); (try simp only [Act.put, nq1, nq2, nq3, nq4, nq5, nq6])
  (refine wpS_load (v := ?_) rfl rfl rfl ?_ ?_; rotate_left; (go_simp; try go_bits) <;> (with_reducible rfl)); (try simp only [Act.put, nq1, nq2, nq3, nq4, nq5, nq6])
  refine wpS_call rfl rfl ?_
  intro K hK
  (show Oper.wp _ _ _ _ _ _)
  (unfold Oper.wp; go_simp)
  refine hK _ _ ?_
  refine fromT_mk hb0 ?_
  (try simp only [Act.put, nq1, nq2, nq3, nq4, nq5, nq6])
  refine wpS_call rfl rfl ?_
  intro K hK
  refine wp_append rfl tyB8 HZ.out 0 rfl rfl rfl (R1.out.below HZ.out.below) (one_bvs _) (by omega) (by decide) ?_
  intro Aq cq wq hS2
  simp only [Nat.zero_add, List.nil_append, List.set_cons_zero] at hS2
  have HZ := hide hS2
  have hbz := hS2.below
  clear hS2
  refine hK _ _ ?_
  refine fromT_mk hbz ?_
  clear hbz
  simp only [Nat.zero_add]
  (try simp only [Act.put, nq1, nq2, nq3, nq4, nq5, nq6])
  refine wpS_call rfl rfl ?_
  intro K hK
  refine wp_append rfl tyB8 HZ.out 0 rfl rfl rfl (R2.out.below HZ.out.below) (one_bvs _) (by omega) (by decide) ?_
  intro Am cm wm hS2
  simp only [List.set_cons_zero] at hS2
  rw [← bvs_append] at hS2
  have HZ := hide hS2
  have hbz := hS2.below
  clear hS2
  refine hK _ _ ?_
  refine fromT_mk hbz ?_
  (try simp only [Act.put, nq1, nq2, nq3, nq4, nq5, nq6])
  (refine wpS_pure (v := ?_) rfl rfl ?_ ?_; rotate_left; (intro wx; go_simp; try go_bits) <;> (with_reducible rfl)); (try simp only [Act.put, nq1, nq2, nq3, nq4, nq5, nq6])
  refine wpS_nil ?_
  have HS := hide (HS.out.join HZ.out)
  clear HZ u0 u1 R1 R2
  go_wp2_with fail
  refine wp_region_T [(0, 1), (1, 0), (2, 0), (3, 1), (4, 2), (5, 2), (6, 0), (7, 1), (8, 1), (9, 1), (10, 0), (11, 0), (12, 1), (13, 2), (14, 2), (15, 0), (16, 1), (17, 1), (18, 1), (19, 1), (20, 0), (21, 1), (22, 1), (23, 0), (24, 2), (25, 1), (26, 1), (27, 1), (28, 0), (29, 0), (30, 1), (31, 2), (32, 0), (33, 1), (34, 1), (35, 1), (36, 1), (37, 0), (38, 1), (39, 1), (40, 1), (41, 1), (42, 1), (43, 0), (44, 1), (45, 1), (46, 0), (47, 1), (48, 1), (49, 1), (50, 1), (51, 1), (52, 2), (53, 1), (54, 1)] (by kernel_rfl) (by kernel_rfl) (fun _ _ _ _ h => h) ?_
  have HS := hide HS.out.drew
  have HS : Hid (St w6 NoB wm.drew [.row (.slice Am (n + 32) cm) 5 1 (n + 32) (bvs (l ++ pubL (seedW q))), .cells w7.heap.size #[.slice A1 n c1, .slice A2 32 c2, .slice A3 64 c3, .slice A4 0 c4, .slice A5 0 c5] 32, .cells w6.heap.size #[.slice rA 32 rc, .slice (some ⟨b, o, none⟩) 1 tc, .slice eA 32 ec, .slice zA 0 zc] 26]) := HS
  generalize wm.drew = wr at HS ⊢
  have b1 : _ = some (Value.slice A2 32 c2) := HS.out.cell 1 rfl 1
  have cv2 := fun x (hx : From wr x) => run_str (P := Tryz.prog) Tryz.underlying22 Tryz.underlying5 Tryz.underlying9 ((HI.out.r2.below HS.out.below).below hx)
  have M0 := True.intro
  go_wp2_with (first
    | (clear M6; go_at_call 8; (with_reducible refine (awake24_any _).mono ?_); rintro e wy ⟨rfl, hb⟩; have HS := hide (HS.out.call hb); have M7 := True.intro)
    | (clear M5; go_at_call 10; (with_reducible refine (SDq.out _).mono ?_); rintro e wy ⟨B9, d9, rfl, hb, ho⟩; have HS := hide (HS.out.call hb); have HSr := hide (rd_own ho); have cv_HSr := fun x (hx : From wy x) => run_str (P := Tryz.prog) Tryz.underlying22 Tryz.underlying5 Tryz.underlying9 (HSr.out.below hx); have a0 : _ = some (Value.slice rA 32 rc) := HS.out.cell 2 rfl 0; have a2 : _ = some (Value.slice eA 32 ec) := HS.out.cell 2 rfl 2; have a3 : _ = some (Value.slice zA 0 zc) := HS.out.cell 2 rfl 3; have b2 : _ = some (Value.slice A3 64 c3) := HS.out.cell 1 rfl 2; have b3 : _ = some (Value.slice A4 0 c4) := HS.out.cell 1 rfl 3; have b4 : _ = some (Value.slice A5 0 c5) := HS.out.cell 1 rfl 4; have cvr := fun x (hx : From wy x) => run_str (P := Tryz.prog) Tryz.underlying22 Tryz.underlying5 Tryz.underlying9 ((HI.out.r.below HS.out.below).below hx); have cve := fun x (hx : From wy x) => run_str (P := Tryz.prog) Tryz.underlying22 Tryz.underlying5 Tryz.underlying9 ((HI.out.e.below HS.out.below).below hx); have M6 := True.intro)
    | (clear M4; go_at_call 12; (with_reducible refine (verify_any _ _ _ _ _ _ _ _ _ _ _ _ _ (pubL_len _) HM.out (sigL_len _ _) (by omega) (by omega) (HI.out.r.below HS.out.below) (HS.out.rd 0 rfl) (HI.out.r3.below HS.out.below)).mono ?_); rintro e wy ⟨rfl, hb⟩; have HS := hide (HS.out.call hb); rw [sig_right]; have a0 : _ = some (Value.slice rA 32 rc) := HS.out.cell 2 rfl 0; have a2 : _ = some (Value.slice eA 32 ec) := HS.out.cell 2 rfl 2; have a3 : _ = some (Value.slice zA 0 zc) := HS.out.cell 2 rfl 3; have b2 : _ = some (Value.slice A3 64 c3) := HS.out.cell 1 rfl 2; have b3 : _ = some (Value.slice A4 0 c4) := HS.out.cell 1 rfl 3; have b4 : _ = some (Value.slice A5 0 c5) := HS.out.cell 1 rfl 4; have cvr := fun x (hx : From wy x) => run_str (P := Tryz.prog) Tryz.underlying22 Tryz.underlying5 Tryz.underlying9 ((HI.out.r.below HS.out.below).below hx); have cve := fun x (hx : From wy x) => run_str (P := Tryz.prog) Tryz.underlying22 Tryz.underlying5 Tryz.underlying9 ((HI.out.e.below HS.out.below).below hx); have M5 := True.intro)
    | (clear M3; go_at_call 11; (with_reducible refine (pub_32 _ _ _ _ (seedW_len _) HSp.out).mono ?_); rintro e wy ⟨B8, d8, rfl, hb, ho⟩; have HS := hide (HS.out.call hb); have HPp := hide (rd_own ho); have cv_HPp := fun x (hx : From wy x) => run_str (P := Tryz.prog) Tryz.underlying22 Tryz.underlying5 Tryz.underlying9 (HPp.out.below hx); have a0 : _ = some (Value.slice rA 32 rc) := HS.out.cell 2 rfl 0; have a2 : _ = some (Value.slice eA 32 ec) := HS.out.cell 2 rfl 2; have a3 : _ = some (Value.slice zA 0 zc) := HS.out.cell 2 rfl 3; have b2 : _ = some (Value.slice A3 64 c3) := HS.out.cell 1 rfl 2; have b3 : _ = some (Value.slice A4 0 c4) := HS.out.cell 1 rfl 3; have b4 : _ = some (Value.slice A5 0 c5) := HS.out.cell 1 rfl 4; have cvr := fun x (hx : From wy x) => run_str (P := Tryz.prog) Tryz.underlying22 Tryz.underlying5 Tryz.underlying9 ((HI.out.r.below HS.out.below).below hx); have cve := fun x (hx : From wy x) => run_str (P := Tryz.prog) Tryz.underlying22 Tryz.underlying5 Tryz.underlying9 ((HI.out.e.below HS.out.below).below hx); have M4 := True.intro)
    | (clear M2; go_at_call 10; (with_reducible refine (SDp.out _).mono ?_); rintro e wy ⟨B7, d7, rfl, hb, ho⟩; have HS := hide (HS.out.call hb); have HSp := hide (rd_own ho); have a0 : _ = some (Value.slice rA 32 rc) := HS.out.cell 2 rfl 0; have a2 : _ = some (Value.slice eA 32 ec) := HS.out.cell 2 rfl 2; have a3 : _ = some (Value.slice zA 0 zc) := HS.out.cell 2 rfl 3; have b2 : _ = some (Value.slice A3 64 c3) := HS.out.cell 1 rfl 2; have b3 : _ = some (Value.slice A4 0 c4) := HS.out.cell 1 rfl 3; have b4 : _ = some (Value.slice A5 0 c5) := HS.out.cell 1 rfl 4; have cvr := fun x (hx : From wy x) => run_str (P := Tryz.prog) Tryz.underlying22 Tryz.underlying5 Tryz.underlying9 ((HI.out.r.below HS.out.below).below hx); have cve := fun x (hx : From wy x) => run_str (P := Tryz.prog) Tryz.underlying22 Tryz.underlying5 Tryz.underlying9 ((HI.out.e.below HS.out.below).below hx); have M3 := True.intro)
    | (clear M1; go_at_call 11; (with_reducible refine (pub_32 _ _ _ _ (seedW_len _) HSq.out).mono ?_); rintro e wy ⟨B6, d6, rfl, hb, ho⟩; have HS := hide (HS.out.call hb); have HPq := hide (rd_own ho); have cv_HPq := fun x (hx : From wy x) => run_str (P := Tryz.prog) Tryz.underlying22 Tryz.underlying5 Tryz.underlying9 (HPq.out.below hx); have a0 : _ = some (Value.slice rA 32 rc) := HS.out.cell 2 rfl 0; have a2 : _ = some (Value.slice eA 32 ec) := HS.out.cell 2 rfl 2; have a3 : _ = some (Value.slice zA 0 zc) := HS.out.cell 2 rfl 3; have b2 : _ = some (Value.slice A3 64 c3) := HS.out.cell 1 rfl 2; have b3 : _ = some (Value.slice A4 0 c4) := HS.out.cell 1 rfl 3; have b4 : _ = some (Value.slice A5 0 c5) := HS.out.cell 1 rfl 4; have cvr := fun x (hx : From wy x) => run_str (P := Tryz.prog) Tryz.underlying22 Tryz.underlying5 Tryz.underlying9 ((HI.out.r.below HS.out.below).below hx); have cve := fun x (hx : From wy x) => run_str (P := Tryz.prog) Tryz.underlying22 Tryz.underlying5 Tryz.underlying9 ((HI.out.e.below HS.out.below).below hx); have M2 := True.intro)
    | (clear M0; go_at_call 10; (with_reducible refine (SDq.out _).mono ?_); rintro e wy ⟨B5, d5, rfl, hb, ho⟩; have HS := hide (HS.out.call hb); have HSq := hide (rd_own ho); have a0 : _ = some (Value.slice rA 32 rc) := HS.out.cell 2 rfl 0; have a2 : _ = some (Value.slice eA 32 ec) := HS.out.cell 2 rfl 2; have a3 : _ = some (Value.slice zA 0 zc) := HS.out.cell 2 rfl 3; have b2 : _ = some (Value.slice A3 64 c3) := HS.out.cell 1 rfl 2; have b3 : _ = some (Value.slice A4 0 c4) := HS.out.cell 1 rfl 3; have b4 : _ = some (Value.slice A5 0 c5) := HS.out.cell 1 rfl 4; have cvr := fun x (hx : From wy x) => run_str (P := Tryz.prog) Tryz.underlying22 Tryz.underlying5 Tryz.underlying9 ((HI.out.r.below HS.out.below).below hx); have cve := fun x (hx : From wy x) => run_str (P := Tryz.prog) Tryz.underlying22 Tryz.underlying5 Tryz.underlying9 ((HI.out.e.below HS.out.below).below hx); have M1 := True.intro)
    | (refine wpT_nil ?_)   | ((with_reducible refine fromT_refl ?_); (try simp only [Act.put, nq1, nq2, nq3, nq4, nq5, nq6]))   | ((with_reducible refine fromT_mk (by assumption) ?_); (try simp only [Act.put, nq1, nq2, nq3, nq4, nq5, nq6]))   | (refine wpT_pure (v := ?_) rfl rfl ?_ ?_; rotate_left; (intro wx; go_simp; try go_bits) <;> (with_reducible rfl); (try simp only [Act.put, nq1, nq2, nq3, nq4, nq5, nq6]))   | (refine wpT_load (v := ?_) rfl rfl rfl ?_ ?_; rotate_left; (go_simp; try go_bits) <;> (with_reducible rfl); (try simp only [Act.put, nq1, nq2, nq3, nq4, nq5, nq6]))   | (refine wpT_read (v := ?_) rfl rfl ?_ ?_; rotate_left; (intro wx hx; go_simp; try go_bits) <;> (with_reducible rfl); (try simp only [Act.put, nq1, nq2, nq3, nq4, nq5, nq6]))   | (refine wpT_call rfl rfl ?_; intro K hK)   | (refine wpT_late rfl rfl ?_; intro K hK)   | (refine wpT_any rfl rfl ?_; intro K hK)   | (refine wpT_skip rfl rfl ?_; (try simp only [Act.put, nq1, nq2, nq3, nq4, nq5, nq6])))
  go_ret
  exact ⟨rfl, bnx HB6.out HS.out.below⟩
end Go.Proofs.YtnohmgpmmhlloaaGreatDoor

namespace Go.Proofs.YtnohmgpmmhlloaaGreatDoor
open Go.RowKit
theorem chainKeys_nat (p q : Nat) (hp : p < 256) (hq : q < 256) (A : Option Addr) (n c : Nat) (l : List UInt8) (w : World) (hl : l.length = n) (hr : Rd w (.slice A n c) 1 n (bvs l)) :
    Calls Tryz.prog 3 #[.int .u8 (p : Int), .int .u8 (q : Int), .slice A n c] w fun e w' => e = .returned (.bool true) ∧ Below w.heap.size w w' := by
  have h := chainKeys_walk (UInt8.ofNat p) (UInt8.ofNat q) A n c l w hl hr
  rwa [show ((UInt8.ofNat p).toNat : Int) = (p : Int) from by rw [UInt8.toNat_ofNat']; omega, show ((UInt8.ofNat q).toNat : Int) = (q : Int) from by rw [UInt8.toNat_ofNat']; omega] at h
end Go.Proofs.YtnohmgpmmhlloaaGreatDoor

namespace Go.Proofs.YtnohmgpmmhlloaaGreatDoor
open Go.ChangeShapes Go.WideShapes Go.ChangeAt Go.RowKit Go.Deep
open Go.ChangeMaps (open_string shut_string)

section
variable {H : Type} {enc : TypeId × Value → H} {P : Program}

theorem trodAll_below (hl : laidOutB P = true) {W W' : World} (hb : Below W.heap.size W W') : ∀ (ts : List TypeId) (vs : List Value) (ds : List (DataW H)) (ps : List MemPlace),
    (ts.all fun t => P.readableRec t && decide (t < P.types.size)) = true → DataW.TrodAll enc P W 0 (fun _ => true) true ts vs ds ps → DataW.TrodAll enc P W' 0 (fun b => decide (b < W.heap.size)) true ts vs ds ps
  | [], vs, ds, ps, _, h => by
    obtain ⟨rfl, rfl, rfl⟩ := trodAll_nil h
    exact rfl
  | t :: ts, vs, ds, ps, hts, h => by
    obtain ⟨v, vs', d, ds', p, q, rfl, rfl, rfl, hd, hr⟩ := trodAll_cons h
    simp only [List.all_cons, Bool.and_eq_true, decide_eq_true_eq] at hts
    obtain ⟨⟨k1, k2⟩, k3⟩ := hts
    have lt : ∀ x ∈ p, x.block < W.heap.size := by
      obtain ⟨m, hm⟩ := hd
      exact DataW.trod_lt m _ _ _ hm
    exact ⟨p, q, Below.trod hl k1 k2 hd hb lt, trodAll_below hl hb ts vs' ds' q (by simpa using k3) hr, rfl⟩
theorem trodAll_length : ∀ (ts : List TypeId) {w : World} {base : Nat} {spare : Nat → Bool} {held : Bool} (vs : List Value) (ds : List (DataW H)) (ps : List MemPlace), DataW.TrodAll enc P w base spare held ts vs ds ps → ds.length = ts.length
  | [], _, _, _, _, vs, ds, ps, h => by
    obtain ⟨rfl, rfl, rfl⟩ := trodAll_nil h
    rfl
  | t :: ts, _, _, _, _, vs, ds, ps, h => by
    obtain ⟨v, vs', d, ds', p, q, rfl, rfl, rfl, hd, hr⟩ := trodAll_cons h
    rw [List.length_cons, List.length_cons, trodAll_length ts vs' ds' q hr]

structure Told (P : Program) (enc : TypeId × Value → H) (W : World) (ts : List TypeId) (args : Array Value) (ds : List (DataW H)) (p : List MemPlace) : Prop where
  trod : DataW.TrodAll enc P W 0 (fun _ => true) true ts args.toList ds p
  ok : ∃ base, ∀ (j : Nat) (t : TypeId) (v : Value), ts.toArray[j]? = some t → args[j]? = some v → Value.okWide P W .any base t v
  size : (DataW.weightsEach P ts ds).all (· ≤ reachBytes) = true
end

section
variable {H : Type} {enc : TypeId × Value → H} {P : Program} {W : World}

theorem open_bytes {t e : TypeId} {fuel : Nat} {a : Option Addr} {len cap : Nat} {x : DataW H × List MemPlace} (ht : P.underlying t = some (.slice e)) (he : P.underlying e = some (.int .u8)) (hC : P.cellsOf e = 1) (hB : P.bytesOf e = 1)
    (h : DataW.trod enc P W 0 (fun _ => true) true fuel t [.slice a len cap] = some x) :
    ∃ l : List UInt8, l.length = len ∧ Rd W (.slice a len cap) 1 len (bvs l) ∧ ((∀ n ∈ x.1.weights P t, n ≤ reachBytes) → len ≤ 140737488351232) := by
  rcases open_ints ht he hC h with ⟨hcs, hx⟩ | ⟨ad, len', cap', zs, hcs, _, hl, hm, hz, hx, hcell, hwz⟩
  · simp only [List.cons.injEq, and_true, Value.slice.injEq] at hcs
    obtain ⟨rfl, rfl, rfl⟩ := hcs
    exact ⟨[], rfl, rd_nil W 1, fun _ => by omega⟩
  · simp only [List.cons.injEq, and_true, Value.slice.injEq] at hcs
    obtain ⟨rfl, rfl, rfl⟩ := hcs
    simp only [if_true] at hz
    refine ⟨(zs.take len).map fun z => UInt8.ofNat z.toNat, by simp; omega, ⟨some ad, cap, rfl, by rw [length_bvs]; simp; omega, hl, hm, (fun hn => by cases hn), fun b o sp hA => ?_⟩, fun hw => ?_⟩
    case refine_2 =>
      have := hw ((len + (cap - len)) * 1) (by rw [hx]; simp [DataW.weights, ht, lits, hB]; omega)
      simp only [reachBytes] at this
      omega
    injection hA with hA
    subst hA
    have hsp : ∀ j, j < zs.length → sp = none := fun j hj => by
      have h0 := hcell 0 (by omega)
      simpa [Addr.add] using World.cell?_spot h0
    refine ⟨fun hn => hsp 0 (by omega), fun j u hu => ?_⟩
    have hj : j < len := by
      have := (List.getElem?_eq_some_iff.1 hu).1
      rw [length_bvs] at this
      simp at this
      omega
    obtain rfl := hsp 0 (by omega)
    have hc := hcell j (by omega)
    rw [Addr.add_lit] at hc
    rw [hc, ← hu]
    have hjz : j < zs.length := by omega
    simp only [bvs, List.getElem?_map, List.getElem?_take, if_pos hj, List.getElem?_eq_getElem hjz, List.getD_eq_getElem?_getD, Option.map_some, Option.getD_some, bv, UInt8.toNat_ofNat']
    have hwf := hwz _ (List.getElem_mem hjz)
    simp [Lit.wf, IntKind.min, IntKind.max, IntKind.signed, IntKind.bits] at hwf
    congr 2
    omega

end
end Go.Proofs.YtnohmgpmmhlloaaGreatDoor

namespace Go.Proofs.YtnohmgpmmhlloaaGreatDoor
open Go.ChangeShapes Go.WideShapes Go.ChangeAt Go.RowKit Go.Deep

theorem u8_of {n : Int} (h : (Lit.int .u8 n).wf = true) : ∃ m : Nat, n = m ∧ m < 256 := by
  simp [Lit.wf, IntKind.min, IntKind.max, IntKind.signed, IntKind.bits] at h
  exact ⟨n.toNat, by omega, by omega⟩
section
variable {H : Type} {enc : TypeId × Value → H} {P : Program} {w W : World} {base : Nat} {spare : Nat → Bool} {held : Bool}
end
end Go.Proofs.YtnohmgpmmhlloaaGreatDoor

namespace Go.Proofs.YtnohmgpmmhlloaaGreatDoor
open Go.ChangeShapes Go.WideShapes Go.ChangeAt Go.RowKit

theorem own : ownKnob Tryz.prog.godebug = none := by kernel_rfl
theorem laidOut : laidOutB Tryz.prog = true := by kernel_rfl
theorem cellsU8 : Tryz.prog.cellsOf 5 = 1 := by kernel_rfl
theorem bytesU8 : Tryz.prog.bytesOf 5 = 1 := by kernel_rfl
end Go.Proofs.YtnohmgpmmhlloaaGreatDoor

namespace Go.Proofs.YtnohmgpmmhlloaaGreatDoor
open Go.ChangeShapes Go.WideShapes Go.ChangeAt Go.RowKit Go.Deep

theorem lift_laid {C : Checked} (own : ownKnob C.prog.godebug = none) {os : Os} (started : os.Started) {f : FuncId} {fn : Func} (noInit : C.prog.inits.idxOf? f = none) (hfn : C.prog.funcs[f]? = some fn)
    {s : ChangeSpec} (hvars : s.vars = []) (hbare : s.plain.varTypes C.prog = []) {tb : TypeId} (hres : fn.resultTypes = #[tb]) (hbool : C.prog.underlying tb = some .bool) (hl : laidOutB C.prog = true)
    (hts : (fn.params.toList.all fun t => C.prog.readableRec t && decide (t < C.prog.types.size)) = true) {l : List (String × DataW Unit)}
    {H : Type} {enc : TypeId × Value → H} (hspec : ∀ (ds : List (DataW H)), ds.length = fn.params.toList.length → (s.fn H ds).results = [.lit (.bool true)] ∧ (s.fn H ds).args = ds ∧ (s.fn H ds).vars = [])
    (witness : ∃ (w : World) (tape : Tape) (i : Input), w.os = os ∧ (w.forCall tape i).Shaped C.prog ∧ i.vars = [] ∧ Input.okWide C.prog (w.forCall tape i) .any w.heap.size f i ∧
      ((s.pre enc C.prog fn [] false (w.forCall tape i).memory i.args ∧ laidMetH C.prog l (w.forCall tape i).memory) ∧ sizedMet enc C.prog fn (OpenSpec.ofChange s) false (w.forCall tape i).memory i.args) ∧ Assume.holds {} C.prog (lone (Frame.enter C.prog f i.args .normal) [] (w.forCall tape i)))
    (walk : ∀ (W : World) (args : Array Value) (ds : List (DataW H)) (p : List MemPlace), Told C.prog enc W fn.params.toList args ds p → laidMetH C.prog l W →
      Calls C.prog f args W fun e W' => e = .returned (.bool true) ∧ Below W.heap.size W W') :
    ReturnsInHanded {} C os f .any (fun w args => (s.pre enc C.prog fn [] false w args ∧ laidMetH C.prog l w) ∧ sizedMet enc C.prog fn (OpenSpec.ofChange s) false w args) (s.post enc C.prog fn false true false false) := by
  refine returnsInHanded_of_change_and (C := C) (X := fun w _ => laidMetH C.prog l w) (fun _ _ _ hh h => h.of_heap hh) own started noInit hfn witness ?_
  intro W base args ds gs before hval hW _ hsz hL _
  have hW' := hW
  obtain ⟨p, q, hA, hV, rfl, hfz, hnd⟩ := hW
  rw [hvars] at hV
  obtain ⟨rfl, rfl⟩ := trodVars_none hV
  have hlen := trodAll_length fn.params.toList args.toList ds p hA
  obtain ⟨s1, s2, s3⟩ := hspec ds hlen
  refine (walk W args ds p ⟨hA, ⟨base, fun j t v ht hv => hval j t v (by simpa using ht) hv⟩, by rw [hbare] at hsz; simpa using hsz⟩ hL).mono fun e W' ⟨he, bel⟩ => ?_
  subst he
  refine ⟨_, rfl, ds, [], _, [], p, [], hW', ?_, ?_, ?_, bel.frame _, fun h => by cases h⟩
  · rw [List.append_nil, s1, hres]
    exact trodAll_mk1 (shut_bool hbool _)
  · rw [List.append_nil, s2]
    exact trodAll_below hl bel _ _ _ _ hts hA
  · rw [List.append_nil, s3, hvars]
    exact rfl

def LL : List (String × DataW Unit) := [("math/bits.deBruijn32tab", Rows.laid_math_bits_deBruijn32tab), ("math/bits.deBruijn64tab", Rows.laid_math_bits_deBruijn64tab), ("internal/strconv.uint64pow10", Rows.laid_internal_strconv_uint64pow10), ("strconv.ErrRange", Rows.laid_strconv_ErrRange), ("strconv.ErrSyntax", Rows.laid_strconv_ErrSyntax)]
theorem door_met (os : Os) (args : Array Value) : laidMetH Tryz.prog LL ((World.doorLaid Tryz.prog 400 os).forCall (fun _ _ => 0) ⟨#[], args, []⟩).memory := by
  rw [MakeChecks.laidMetH_plain _ _ _ (by kernel_rfl)]
  exact laidMet_of_run' 8 (by kernel_rfl) (by kernel_rfl)
end Go.Proofs.YtnohmgpmmhlloaaGreatDoor
